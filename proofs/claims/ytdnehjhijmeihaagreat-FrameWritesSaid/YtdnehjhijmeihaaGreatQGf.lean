/-
  Joined texts: Gf, Gg.
-/
import Derived.Test.YtdnehjhijmeihaaGreatQGp
import Derived.Test.YtdnehjhijmeihaaGreatQSl
namespace Go.Proofs.YtdnehjhijmeihaaGreat
open Go.ChangeShapes Go.WideShapes Go.ChangeAt Go.RowKit
set_option linter.unusedVariables false
set_option linter.unusedSimpArgs false
set_option maxRecDepth 20000
attribute [local irreducible] wpList
abbrev gSegs (gr : Nat) (e : Int) : List Seg := [.one (.pointer (some ⟨gr, 0, none⟩)), .one (.int .i64 e)]
def NumC (B : Nat) (w0 : World) (g gr : Nat) (s : ByteArray) (n : Nat) (t : St) (v : Nat) (t' : St) : Prop :=
  ∀ (W : World) (H H1 H2 : HB) (Q : Ending → World → Prop) (x : Int) (i j : Nat), x = (n : Int) → Hp B w0 W H → nthH H i = some (g, 163, true, gSegs gr t.e) → updH H i (gSegs gr t'.e) = some H1 → nthH H1 j = some (gr, 129, true, rdSegs s t) → updH H1 j (rdSegs s t') = some H2 → (∀ W', Hp B w0 W' H2 → Q (.returned (.int .i64 (v : Int))) W') → Calls Tryz.prog 155 #[.pointer (some ⟨g, 0, none⟩), .int .i64 x] W Q
def AddrC (B : Nat) (w0 : World) (g gr : Nat) (s : ByteArray) (t : St) (A : List Value) (t' : St) : Prop :=
  ∀ (W : World) (H H1 H2 : HB) (Q : Ending → World → Prop) (i j : Nat), Hp B w0 W H → nthH H i = some (g, 163, true, gSegs gr t.e) → updH H i (gSegs gr t'.e) = some H1 → nthH H1 j = some (gr, 129, true, rdSegs s t) → updH H1 j (rdSegs s t') = some H2 → (∀ W', Hp B w0 W' H2 → Q (.returned (.agg (fls [.many A 17]).toArray)) W') → Calls Tryz.prog 159 #[.pointer (some ⟨g, 0, none⟩)] W Q
def FailC (B : Nat) (w0 : World) (g gr : Nat) (s : ByteArray) (is : Bool) (c : Int) (t : St) (e' : Int) : Prop :=
  ∀ (W : World) (H H1 H2 : HB) (Q : Ending → World → Prop) (x : Bool) (y : Int) (i j : Nat), x = is → y = c → Hp B w0 W H → nthH H i = some (g, 163, true, gSegs gr t.e) → updH H i (gSegs gr e') = some H1 → nthH H1 j = some (gr, 129, true, rdSegs s t) → updH H1 j (rdSegs s t) = some H2 → (∀ W', Hp B w0 W' H2 → Q (.returned (.tuple #[])) W') → Calls Tryz.prog 156 #[.pointer (some ⟨g, 0, none⟩), .bool x, .int .i64 y] W Q
def SrcC (B : Nat) (w0 : World) (g gr : Nat) (s : ByteArray) (n : Nat) (t : St) (L : List Ad) (t' : St) : Prop :=
  ∀ (W : World) (H H1 H2 : HB) (Q : Ending → World → Prop) (i j : Nat), Hp B w0 W H → nthH H i = some (g, 163, true, gSegs gr t.e) → updH H i (gSegs gr t'.e) = some H1 → nthH H1 j = some (gr, 129, true, rdSegs s t) → updH H1 j (rdSegs s t') = some H2 → (∀ W' p c D, Hid (∀ B w0 W, Hp B w0 W D → AdsAt W p L) → Hid (∀ r ∈ D, r.2.2.1 = true) → Hp B w0 W' (H2 ++ D) → Q (.returned (.slice p L.length c)) W') → Calls Tryz.prog 194 #[.pointer (some ⟨g, 0, none⟩), .int .i64 (n : Int)] W Q
def TakeC (B : Nat) (w0 : World) (gr : Nat) (s : ByteArray) (n : Nat) (t t' : St) : Prop :=
  ∀ (W : World) (H H2 : HB) (Q : Ending → World → Prop) (x : Int) (j : Nat), x = (n : Int) → Hp B w0 W H → nthH H j = some (gr, 129, true, rdSegs s t) → updH H j (rdSegs s t') = some H2 → (∀ W', Hp B w0 W' H2 → Q (.returned (.string (rdS s t.k t.b n))) W') → Calls Tryz.prog 101 #[.pointer (some ⟨gr, 0, none⟩), .int .i64 x] W Q
section
variable {B : Nat} {w0 W w : World} {H : HB} {g gr : Nat} {s : ByteArray} {t : St} {Q : Ending → World → Prop}
theorem wrap_small {v : Nat} (h : v < 2 ^ 63) : wrap64 (v : Int) = (v : Int) := by
  unfold wrap64
  omega
theorem numC {n : Nat} (hn : n ≤ 4) (hs : s.size ≤ 100000) (hk : t.k ≤ s.size) : NumC B w0 g gr s n t (numV s n t) (stepS s n t) := by
  intro W H H1 H2 Q x i j hx hH h1 h2 h3 h4 hQ
  subst hx
  have hv := numV_lt s n t
  have : 256 ^ n ≤ 256 ^ 4 := Nat.pow_le_pow_right (by omega) hn
  have := wrap_small (v := numV s n t) (by omega)
  rw [← this] at hQ
  exact hINum i j (by omega) hs hk hH h1 h2 h3 h4 hQ
theorem addrC (hs : s.size ≤ 100000) (hk : t.k ≤ s.size) : AddrC B w0 g gr s t (adL (addrS s 4 t)) (stepS s 4 t) := fun W H H1 H2 Q i j hH h1 h2 h3 h4 hQ => hIAddr i j hs hk hH h1 h2 h3 h4 hQ
theorem failC {is : Bool} {c : Int} : FailC B w0 g gr s is c t (failS is c t).e := fun W H H1 H2 Q x y i j hx hy hH h1 h2 h3 h4 hQ => by subst hx; subst hy; exact hFail (t := t) i j hH h1 h2 h3 h4 hQ
theorem srcC {n : Nat} {L : List Ad} {t' : St} (hn : n < 65536) (hs : s.size ≤ 100000) (hk : t.k ≤ s.size) (he : srcF s n t = (L, t')) : SrcC B w0 g gr s n t L t' := by
  intro W H H1 H2 Q i j hH h1 h2 h3 h4 hQ
  obtain ⟨H0, p1, p2⟩ := perm2 h1 h2 h3 h4 (by decide)
  refine isources_any hn hs hk (H := H0) (hH.perm p1) ?_
  intro W' p c D L2 t2 e hA hD h
  have e2 := e.out.symm.trans he
  injection e2 with e3 e4
  subst e3
  subst e4
  refine hQ W' p c D hA hD (h.perm ?_)
  unfold rdH
  refine List.Perm.trans ?_ (p2.symm.append_right D)
  exact (List.Perm.cons _ (List.Perm.cons _ List.perm_append_comm))
theorem takeC {n : Nat} (hn : n ≤ 100000) (hs : s.size ≤ 100000) (hk : t.k ≤ s.size) : TakeC B w0 gr s n t ⟨rdK s t.k t.b n, rdB s t.k t.b n, t.e⟩ := fun W H H2 Q x j hx hH h3 h4 hQ => by
  subst hx
  exact hTakeA (n := (n : Int)) j hH h3 h4 (by omega) hk (by omega) hQ
def recF (s : ByteArray) (t : St) : Rc × Bool × St :=
  let t1 := stepS s 1 t
  let t2 := stepS s 1 t1
  let t3 := stepS s 2 t2
  let t4 := stepS s 4 t3
  let L := srcF s (numV s 2 t2) t4
  (⟨numV s 1 t, addrS s 4 t3, L.1⟩, decide (1 ≤ numV s 1 t) && (decide (numV s 1 t ≤ 6) && grp4 (addrS s 4 t3)), if L.2.e = 0 then stepS s (numV s 1 t1 * 4) L.2 else L.2)
theorem recF_k (h : t.k ≤ s.size) : (recF s t).2.2.k ≤ s.size := by
  unfold recF
  simp only
  have := srcF_k (n := numV s 2 (stepS s 1 (stepS s 1 t))) (stepS_k (n := 4) (stepS_k (n := 2) (stepS_k (n := 1) (stepS_k (n := 1) h))))
  split
  · exact stepS_k this
  · exact this
set_option maxHeartbeats 2000000 in
theorem irecord_any (hs : s.size ≤ 100000) (hk : t.k ≤ s.size) (hH : Hp B w0 W (rdH g gr s t H)) (hQ : ∀ W' r ok t' p c D, Hid (recF s t = (r, ok, t')) → Hid (∀ B w0 W, Hp B w0 W D → AdsAt W p r.src) → Hid (∀ r ∈ D, r.2.2.1 = true) → Hp B w0 W' (rdH g gr s t' (H ++ D)) → Q (.returned (.tuple #[.agg (fls (rvS ⟨r, p, c⟩)).toArray, .bool ok])) W') : Calls Tryz.prog 195 #[.pointer (some ⟨g, 0, none⟩)] W Q := by
  have HQ := Lib.hid hQ
  clear hQ
  have N1 := numC (B := B) (w0 := w0) (g := g) (gr := gr) (n := 1) (by omega) hs hk
  have hv1 : numV s 1 t < 256 := numV_lt s 1 t
  have hk1 := stepS_k (n := 1) hk
  obtain ⟨v1, e1⟩ : ∃ v, numV s 1 t = v := ⟨_, rfl⟩
  obtain ⟨t1, e2⟩ : ∃ v, stepS s 1 t = v := ⟨_, rfl⟩
  rw [e1] at N1 hv1
  rw [e2] at N1 hk1
  have N2 := numC (B := B) (w0 := w0) (g := g) (gr := gr) (n := 1) (by omega) hs hk1
  have hv2 : numV s 1 t1 < 256 := numV_lt s 1 t1
  have hk2 := stepS_k (n := 1) hk1
  obtain ⟨v2, e3⟩ : ∃ v, numV s 1 t1 = v := ⟨_, rfl⟩
  obtain ⟨t2, e4⟩ : ∃ v, stepS s 1 t1 = v := ⟨_, rfl⟩
  rw [e3] at N2 hv2
  rw [e4] at N2 hk2
  have N3 := numC (B := B) (w0 := w0) (g := g) (gr := gr) (n := 2) (by omega) hs hk2
  have hv3 : numV s 2 t2 < 65536 := numV_lt s 2 t2
  have hk3 := stepS_k (n := 2) hk2
  obtain ⟨v3, e5⟩ : ∃ v, numV s 2 t2 = v := ⟨_, rfl⟩
  obtain ⟨t3, e6⟩ : ∃ v, stepS s 2 t2 = v := ⟨_, rfl⟩
  rw [e5] at N3 hv3
  rw [e6] at N3 hk3
  have A4 := addrC (B := B) (w0 := w0) (g := g) (gr := gr) hs hk3
  have hk4 := stepS_k (n := 4) hk3
  obtain ⟨a, e7⟩ : ∃ v, addrS s 4 t3 = v := ⟨_, rfl⟩
  obtain ⟨t4, e8⟩ : ∃ v, stepS s 4 t3 = v := ⟨_, rfl⟩
  rw [e7, e8] at A4
  rw [e8] at hk4
  have hk5 := srcF_k (n := v3) hk4
  obtain ⟨L, t5, e9⟩ : ∃ L t, srcF s v3 t4 = (L, t) := ⟨_, _, rfl⟩
  have S5 := srcC (B := B) (w0 := w0) (g := g) (gr := gr) hv3 hs hk4 e9
  rw [e9] at hk5
  have hR : recF s t = (⟨v1, a, L⟩, decide (1 ≤ v1) && (decide (v1 ≤ 6) && grp4 a), if t5.e = 0 then stepS s (v2 * 4) t5 else t5) := by
    unfold recF
    simp only [e1, e2, e3, e4, e5, e6, e7, e8, e9]
  have HR := Lib.hid hR
  clear hR e1 e2 e3 e4 e5 e6 e7 e8 e9 hk hk1 hk2 hk3 hk4 hv3
  have f1 : ∀ w, Gives Tryz.prog 160 #[.agg (fls [.many (adL a) 17]).toArray] w (.bool (grp4 a)) := fun w => igroup_any
  have T6 := takeC (B := B) (w0 := w0) (gr := gr) (n := v2 * 4) (by omega) hs hk5
  have F6 := failC (B := B) (w0 := w0) (g := g) (gr := gr) (s := s) (is := rdB s t5.k t5.b (v2 * 4)) (c := 3) (t := ⟨rdK s t5.k t5.b (v2 * 4), rdB s t5.k t5.b (v2 * 4), t5.e⟩)
  have e6 : stepS s (v2 * 4) t5 = ⟨rdK s t5.k t5.b (v2 * 4), rdB s t5.k t5.b (v2 * 4), (failS (rdB s t5.k t5.b (v2 * 4)) 3 ⟨rdK s t5.k t5.b (v2 * 4), rdB s t5.k t5.b (v2 * 4), t5.e⟩).e⟩ := by
    unfold stepS
    generalize rdK s t5.k t5.b (v2 * 4) = x
    generalize rdB s t5.k t5.b (v2 * 4) = y
    unfold failS
    split <;> rfl
  rw [e6] at HR
  clear e6
  generalize (failS (rdB s t5.k t5.b (v2 * 4)) 3 ⟨rdK s t5.k t5.b (v2 * 4), rdB s t5.k t5.b (v2 * 4), t5.e⟩).e = e6 at *
  generalize rdS s t5.k t5.b (v2 * 4) = x6 at *
  generalize rdK s t5.k t5.b (v2 * 4) = k6 at *
  generalize rdB s t5.k t5.b (v2 * 4) = b6 at *
  have oA := adL_ok a
  obtain ⟨k5, b5, e5⟩ := t5
  simp only at HR F6 T6
  go_enter Tryz.func195, Tryz.ntmps195
  set_option maxHeartbeats 800000 in
  by_cases he : e5 = 0
  rotate_left
  · have de : (e5 == 0) = false := by simpa using he
    rw [if_neg he] at HR
    go_wp2_with (first | ((go_at_call 155; (first | refine N1 _ _ _ _ _ _ 1 2 rfl hH rfl rfl rfl rfl ?_ | refine N2 _ _ _ _ _ _ 2 3 rfl hH rfl rfl rfl rfl ?_ | refine N3 _ _ _ _ _ _ 2 3 rfl hH rfl rfl rfl rfl ?_); (clear hH; (first | intro W g hH | intro W hH); (try simp only [Act.put, pA, pB, pC])))) | ((go_at_call 159; refine A4 _ _ _ _ _ 2 3 hH rfl rfl rfl rfl ?_; (clear hH; (first | intro W g hH | intro W hH); (try simp only [Act.put, pA, pB, pC])))) | ((go_at_call 194; refine S5 _ _ _ _ _ 2 3 hH rfl rfl rfl rfl ?_; (clear hH; intro W sp sc D hA hD hH); (try simp only [List.cons_append] at hH); (try simp only [Act.put, List.setIfInBounds_toArray, List.set_cons_succ, List.set_cons_zero]))) | (refine st ?_; clear hH; first | intro W g hH | intro W hH))
    by_cases h1 : v1 < 1
    · have d1 : decide ((1 : Int) ≤ (v1 : Int)) = false := decide_eq_false (by omega)
      have HR2 := Lib.hid (HR.out.trans (by rw [show decide (1 ≤ v1) = false from decide_eq_false (by omega), Bool.false_and]))
      clear HR
      clear N1 N2 N3 A4 S5 T6 F6
      ((with_reducible refine regM hH (SubH.keep (SubH.drop SubH.refl)) (by kernel_rfl) ?_); (clear hH; intro W hH); refine mtt [0, 1, 2, 3, 4, 5, 6, 7, 8, 9, 10, 11] ?_; refine mo 12 ?_; go_wp2_with (refine st ?_; clear hH; first | intro W g hH | intro W hH); refine me ?_; refine mtt [13] ?_; refine mo 14 ?_; go_wp2_with (refine st ?_; clear hH; first | intro W g hH | intro W hH); refine me ?_; refine mtt [15] ?_; refine hm_end (by kernel_rfl) ?_)
      go_wp2_with (refine st ?_; clear hH; first | intro W g hH | intro W hH)
      (refine iRet2 Tryz.results195 tab_ok rfl rfl hH ?_; refine ⟨_, _, rfl, rfl, rfl, ?_⟩)
      exact HQ.out _ _ _ _ sp sc D HR2 hA hD (hH.sub (SubH.drop (SubH.drop SubH.refl)))
    have d1 : decide ((1 : Int) ≤ (v1 : Int)) = true := decide_eq_true (by omega)
    by_cases h2 : 6 < v1
    · have d2 : decide ((v1 : Int) ≤ 6) = false := decide_eq_false (by omega)
      have HR2 := Lib.hid (HR.out.trans (by rw [show decide (v1 ≤ 6) = false from decide_eq_false (by omega), Bool.false_and, Bool.and_false]))
      clear HR
      clear N1 N2 N3 A4 S5 T6 F6
      ((with_reducible refine regM hH (SubH.keep (SubH.drop SubH.refl)) (by kernel_rfl) ?_); (clear hH; intro W hH); refine mtt [0, 1, 2, 3, 4, 5, 6, 7, 8, 9, 10, 11] ?_; refine mo 12 ?_; go_wp2_with (refine st ?_; clear hH; first | intro W g hH | intro W hH); refine me ?_; refine mtt [13] ?_; refine mo 14 ?_; go_wp2_with (refine st ?_; clear hH; first | intro W g hH | intro W hH); refine me ?_; refine mtt [15] ?_; refine hm_end (by kernel_rfl) ?_)
      go_wp2_with (refine st ?_; clear hH; first | intro W g hH | intro W hH)
      (refine iRet2 Tryz.results195 tab_ok rfl rfl hH ?_; refine ⟨_, _, rfl, rfl, rfl, ?_⟩)
      exact HQ.out _ _ _ _ sp sc D HR2 hA hD (hH.sub (SubH.drop (SubH.drop SubH.refl)))
    have d2 : decide ((v1 : Int) ≤ 6) = true := decide_eq_true (by omega)
    have HR2 := Lib.hid (HR.out.trans (by rw [show decide (v1 ≤ 6) = true from decide_eq_true (by omega), show decide (1 ≤ v1) = true from decide_eq_true (by omega), Bool.true_and, Bool.true_and]))
    clear HR
    generalize grp4 a = gb at *
    cases gb
    · skip
      clear N1 N2 N3 A4 S5 T6 F6
      ((with_reducible refine regM hH (SubH.keep (SubH.drop SubH.refl)) (by kernel_rfl) ?_); (clear hH; intro W hH); refine mtt [0, 1, 2, 3, 4, 5, 6, 7, 8, 9, 10, 11] ?_; refine mo 12 ?_; go_wp2_with (refine st ?_; clear hH; first | intro W g hH | intro W hH); refine me ?_; refine mtt [13] ?_; refine mo 14 ?_; go_wp2_with (refine st ?_; clear hH; first | intro W g hH | intro W hH); refine me ?_; refine mtt [15] ?_; refine hm_end (by kernel_rfl) ?_)
      go_wp2_with (refine st ?_; clear hH; first | intro W g hH | intro W hH)
      (refine iRet2 Tryz.results195 tab_ok rfl rfl hH ?_; refine ⟨_, _, rfl, rfl, rfl, ?_⟩)
      exact HQ.out _ _ _ _ sp sc D HR2 hA hD (hH.sub (SubH.drop (SubH.drop SubH.refl)))
    · skip
      clear N1 N2 N3 A4 S5 T6 F6
      ((with_reducible refine regM hH (SubH.keep (SubH.drop SubH.refl)) (by kernel_rfl) ?_); (clear hH; intro W hH); refine mtt [0, 1, 2, 3, 4, 5, 6, 7, 8, 9, 10, 11] ?_; refine mo 12 ?_; go_wp2_with (refine st ?_; clear hH; first | intro W g hH | intro W hH); refine me ?_; refine mtt [13] ?_; refine mo 14 ?_; go_wp2_with (refine st ?_; clear hH; first | intro W g hH | intro W hH); refine me ?_; refine mtt [15] ?_; refine hm_end (by kernel_rfl) ?_)
      go_wp2_with (refine st ?_; clear hH; first | intro W g hH | intro W hH)
      (refine iRet2 Tryz.results195 tab_ok rfl rfl hH ?_; refine ⟨_, _, rfl, rfl, rfl, ?_⟩)
      exact HQ.out _ _ _ _ sp sc D HR2 hA hD (hH.sub (SubH.drop (SubH.drop SubH.refl)))
  · subst he
    rw [if_pos rfl] at HR
    go_wp2_with (first | ((go_at_call 155; (first | refine N1 _ _ _ _ _ _ 1 2 rfl hH rfl rfl rfl rfl ?_ | refine N2 _ _ _ _ _ _ 2 3 rfl hH rfl rfl rfl rfl ?_ | refine N3 _ _ _ _ _ _ 2 3 rfl hH rfl rfl rfl rfl ?_); (clear hH; (first | intro W g hH | intro W hH); (try simp only [Act.put, pA, pB, pC])))) | ((go_at_call 159; refine A4 _ _ _ _ _ 2 3 hH rfl rfl rfl rfl ?_; (clear hH; (first | intro W g hH | intro W hH); (try simp only [Act.put, pA, pB, pC])))) | ((go_at_call 194; refine S5 _ _ _ _ _ 2 3 hH rfl rfl rfl rfl ?_; (clear hH; intro W sp sc D hA hD hH); (try simp only [List.cons_append] at hH); (try simp only [Act.put, List.setIfInBounds_toArray, List.set_cons_succ, List.set_cons_zero]))) | ((go_at_call 101; refine T6 _ _ _ _ _ 3 rfl hH rfl rfl ?_; (clear hH; (first | intro W g hH | intro W hH); (try simp only [Act.put, pA, pB, pC])))) | ((go_at_call 52; refine hBad (s := s) (k := k6) (bad := b6) 3 hH rfl ?_; (clear hH; (first | intro W g hH | intro W hH); (try simp only [Act.put, pA, pB, pC])))) | ((go_at_call 156; refine F6 _ _ _ _ _ _ _ 2 3 rfl rfl hH rfl rfl rfl rfl ?_; (clear hH; (first | intro W g hH | intro W hH); (try simp only [Act.put, pA, pB, pC])))) | (refine st ?_; clear hH; first | intro W g hH | intro W hH))
    by_cases h1 : v1 < 1
    · have d1 : decide ((1 : Int) ≤ (v1 : Int)) = false := decide_eq_false (by omega)
      have HR2 := Lib.hid (HR.out.trans (by rw [show decide (1 ≤ v1) = false from decide_eq_false (by omega), Bool.false_and]))
      clear HR
      clear N1 N2 N3 A4 S5 T6 F6
      ((with_reducible refine regM hH (SubH.keep (SubH.drop SubH.refl)) (by kernel_rfl) ?_); (clear hH; intro W hH); refine mtt [0, 1, 2, 3, 4, 5, 6, 7, 8, 9, 10, 11] ?_; refine mo 12 ?_; go_wp2_with (refine st ?_; clear hH; first | intro W g hH | intro W hH); refine me ?_; refine mtt [13] ?_; refine mo 14 ?_; go_wp2_with (refine st ?_; clear hH; first | intro W g hH | intro W hH); refine me ?_; refine mtt [15] ?_; refine hm_end (by kernel_rfl) ?_)
      go_wp2_with (refine st ?_; clear hH; first | intro W g hH | intro W hH)
      (refine iRet2 Tryz.results195 tab_ok rfl rfl hH ?_; refine ⟨_, _, rfl, rfl, rfl, ?_⟩)
      exact HQ.out _ _ _ _ sp sc D HR2 hA hD (hH.sub (SubH.drop (SubH.drop SubH.refl)))
    have d1 : decide ((1 : Int) ≤ (v1 : Int)) = true := decide_eq_true (by omega)
    by_cases h2 : 6 < v1
    · have d2 : decide ((v1 : Int) ≤ 6) = false := decide_eq_false (by omega)
      have HR2 := Lib.hid (HR.out.trans (by rw [show decide (v1 ≤ 6) = false from decide_eq_false (by omega), Bool.false_and, Bool.and_false]))
      clear HR
      clear N1 N2 N3 A4 S5 T6 F6
      ((with_reducible refine regM hH (SubH.keep (SubH.drop SubH.refl)) (by kernel_rfl) ?_); (clear hH; intro W hH); refine mtt [0, 1, 2, 3, 4, 5, 6, 7, 8, 9, 10, 11] ?_; refine mo 12 ?_; go_wp2_with (refine st ?_; clear hH; first | intro W g hH | intro W hH); refine me ?_; refine mtt [13] ?_; refine mo 14 ?_; go_wp2_with (refine st ?_; clear hH; first | intro W g hH | intro W hH); refine me ?_; refine mtt [15] ?_; refine hm_end (by kernel_rfl) ?_)
      go_wp2_with (refine st ?_; clear hH; first | intro W g hH | intro W hH)
      (refine iRet2 Tryz.results195 tab_ok rfl rfl hH ?_; refine ⟨_, _, rfl, rfl, rfl, ?_⟩)
      exact HQ.out _ _ _ _ sp sc D HR2 hA hD (hH.sub (SubH.drop (SubH.drop SubH.refl)))
    have d2 : decide ((v1 : Int) ≤ 6) = true := decide_eq_true (by omega)
    have HR2 := Lib.hid (HR.out.trans (by rw [show decide (v1 ≤ 6) = true from decide_eq_true (by omega), show decide (1 ≤ v1) = true from decide_eq_true (by omega), Bool.true_and, Bool.true_and]))
    clear HR
    generalize grp4 a = gb at *
    cases gb
    · skip
      clear N1 N2 N3 A4 S5 T6 F6
      ((with_reducible refine regM hH (SubH.keep (SubH.drop SubH.refl)) (by kernel_rfl) ?_); (clear hH; intro W hH); refine mtt [0, 1, 2, 3, 4, 5, 6, 7, 8, 9, 10, 11] ?_; refine mo 12 ?_; go_wp2_with (refine st ?_; clear hH; first | intro W g hH | intro W hH); refine me ?_; refine mtt [13] ?_; refine mo 14 ?_; go_wp2_with (refine st ?_; clear hH; first | intro W g hH | intro W hH); refine me ?_; refine mtt [15] ?_; refine hm_end (by kernel_rfl) ?_)
      go_wp2_with (refine st ?_; clear hH; first | intro W g hH | intro W hH)
      (refine iRet2 Tryz.results195 tab_ok rfl rfl hH ?_; refine ⟨_, _, rfl, rfl, rfl, ?_⟩)
      exact HQ.out _ _ _ _ sp sc D HR2 hA hD (hH.sub (SubH.drop (SubH.drop SubH.refl)))
    · skip
      clear N1 N2 N3 A4 S5 T6 F6
      ((with_reducible refine regM hH (SubH.keep (SubH.drop SubH.refl)) (by kernel_rfl) ?_); (clear hH; intro W hH); refine mtt [0, 1, 2, 3, 4, 5, 6, 7, 8, 9, 10, 11] ?_; refine mo 12 ?_; go_wp2_with (refine st ?_; clear hH; first | intro W g hH | intro W hH); refine me ?_; refine mtt [13] ?_; refine mo 14 ?_; go_wp2_with (refine st ?_; clear hH; first | intro W g hH | intro W hH); refine me ?_; refine mtt [15] ?_; refine hm_end (by kernel_rfl) ?_)
      go_wp2_with (refine st ?_; clear hH; first | intro W g hH | intro W hH)
      (refine iRet2 Tryz.results195 tab_ok rfl rfl hH ?_; refine ⟨_, _, rfl, rfl, rfl, ?_⟩)
      exact HQ.out _ _ _ _ sp sc D HR2 hA hD (hH.sub (SubH.drop (SubH.drop SubH.refl)))
end
def RecC (B : Nat) (w0 : World) (g gr : Nat) (s : ByteArray) (t : St) (r : Rc) (ok : Bool) (t' : St) : Prop :=
  ∀ (W : World) (H H1 H2 : HB) (Q : Ending → World → Prop) (i j : Nat), Hp B w0 W H → nthH H i = some (g, 163, true, gSegs gr t.e) → updH H i (gSegs gr t'.e) = some H1 → nthH H1 j = some (gr, 129, true, rdSegs s t) → updH H1 j (rdSegs s t') = some H2 → (∀ W' p c D, Hid (∀ B w0 W, Hp B w0 W D → AdsAt W p r.src) → Hid (∀ r ∈ D, r.2.2.1 = true) → Hp B w0 W' (H2 ++ D) → Q (.returned (.tuple #[.agg (fls [.one (.int .i64 r.kind), .many (adL r.grp) 17, .one (.slice p r.src.length c)]).toArray, .bool ok])) W') → Calls Tryz.prog 195 #[.pointer (some ⟨g, 0, none⟩)] W Q
def repL (s : ByteArray) (n : Nat) : Nat → Nat → List Rc → St → List Rc × St
  | 0, i, X, t => (X, t)
  | f + 1, i, X, t => if i < n ∧ t.e = 0 then repL s n f (i + 1) (if (recF s t).2.1 then X ++ [(recF s t).1] else X) (recF s t).2.2 else (X, t)
theorem repL_more {s : ByteArray} {n f i : Nat} {X : List Rc} {t : St} (h : i < n ∧ t.e = 0) : repL s n (f + 1) i X t = repL s n f (i + 1) (if (recF s t).2.1 then X ++ [(recF s t).1] else X) (recF s t).2.2 := by rw [repL, if_pos h]
theorem repL_end {s : ByteArray} {n f i : Nat} {X : List Rc} {t : St} (h : ¬(i < n ∧ t.e = 0)) : repL s n f i X t = (X, t) := by
  cases f with
  | zero => rfl
  | succ f => rw [repL, if_neg h]
def repF (s : ByteArray) (t : St) : List Rc × St :=
  repL s (numV s 2 (stepS s 2 t)) 65 0 [] (failS (decide (64 < numV s 2 (stepS s 2 t))) 6 (stepS s 2 (stepS s 2 t)))
theorem own_app {D E : HB} (h : Hid (∀ r ∈ D, r.2.2.1 = true)) (h' : Hid (∀ r ∈ E, r.2.2.1 = true)) : Hid (∀ r ∈ D ++ E, r.2.2.1 = true) := Lib.hid fun r hr => (List.mem_append.1 hr).elim (h.out r) (h'.out r)
theorem in_app {X : List Rv} {D E : HB} (h : Hid (∀ x ∈ X, ∀ B w0 W, Hp B w0 W D → AdsAt W x.p x.r.src)) : Hid (∀ x ∈ X, ∀ B w0 W, Hp B w0 W (D ++ E) → AdsAt W x.p x.r.src) := Lib.hid fun x hx B w0 W hH => h.out x hx B w0 W (hH.sub SubH.appL)
theorem in_snoc {X : List Rv} {D E : HB} {y : Rv} (h : Hid (∀ x ∈ X, ∀ B w0 W, Hp B w0 W D → AdsAt W x.p x.r.src)) (h' : Hid (∀ B w0 W, Hp B w0 W E → AdsAt W y.p y.r.src)) : Hid (∀ x ∈ X ++ [y], ∀ B w0 W, Hp B w0 W (D ++ E) → AdsAt W x.p x.r.src) := Lib.hid fun x hx B w0 W hH => by
  rcases List.mem_append.1 hx with hx | hx
  · exact h.out x hx B w0 W (hH.sub SubH.appL)
  · obtain rfl := List.mem_singleton.1 hx
    exact h'.out B w0 W (hH.sub SubH.appR)
theorem in_one {D E : HB} {y : Rv} (h' : Hid (∀ B w0 W, Hp B w0 W E → AdsAt W y.p y.r.src)) : Hid (∀ x ∈ [y], ∀ B w0 W, Hp B w0 W (D ++ E) → AdsAt W x.p x.r.src) := Lib.hid fun x hx B w0 W hH => by
  obtain rfl := List.mem_singleton.1 hx
  exact h'.out B w0 W (hH.sub SubH.appR)
section
variable {B : Nat} {w0 W w : World} {H : HB} {g gr gt : Nat} {s : ByteArray} {t : St} {Q : Ending → World → Prop}
theorem recC {r : Rc} {ok : Bool} {t' : St} (hs : s.size ≤ 100000) (hk : t.k ≤ s.size) (he : recF s t = (r, ok, t')) : RecC B w0 g gr s t r ok t' := by
  intro W H H1 H2 Q i j hH h1 h2 h3 h4 hQ
  obtain ⟨H0, p1, p2⟩ := perm2 h1 h2 h3 h4 (by decide)
  refine irecord_any hs hk (H := H0) (hH.perm p1) ?_
  intro W' r2 ok2 t2 p c D e hA hD h
  have e2 := e.out.symm.trans he
  injection e2 with e3 e4
  injection e4 with e4 e5
  subst e3
  subst e4
  subst e5
  exact hQ W' p c D hA hD (h.perm (p2.symm.append_right D))
set_option maxHeartbeats 2000000 in
theorem ireports_any {v6 quiet : Bool} {ver kind resp rob every : Int} {G : List Value} {src : List Ad} {sp : Option Addr} {sc : Nat} (oG : OkA G 17) (hs : s.size ≤ 100000) (hk : t.k ≤ s.size)
    (hH : Hp B w0 W (rdH g gr s t ((gt, 29, true, [.one (.bool v6), .one (.int .i64 ver), .one (.int .i64 kind), .one (.int .i64 resp), .many G 17, .one (.bool quiet), .one (.int .i64 rob), .one (.int .i64 every), .one (.slice sp src.length sc), .one (.slice none 0 0)]) :: H)))
    (hQ : ∀ W' R t' D rp rc, Hid (repF s t = (R, t')) → Hid (∀ B w0 W, Hp B w0 W D → RcsAt W rp R) → Hid (∀ r ∈ D, r.2.2.1 = true) → Hp B w0 W' (rdH g gr s t' ((gt, 29, true, [.one (.bool v6), .one (.int .i64 ver), .one (.int .i64 kind), .one (.int .i64 resp), .many G 17, .one (.bool quiet), .one (.int .i64 rob), .one (.int .i64 every), .one (.slice sp src.length sc), .one (.slice rp R.length rc)]) :: (H ++ D))) → Q (.returned (.tuple #[])) W') : Calls Tryz.prog 158 #[.pointer (some ⟨g, 0, none⟩), .pointer (some ⟨gt, 0, none⟩)] W Q := by
  have HQ := Lib.hid hQ
  clear hQ
  have N1 := numC (B := B) (w0 := w0) (g := g) (gr := gr) (n := 2) (by omega) hs hk
  have hk1 := stepS_k (n := 2) hk
  obtain ⟨v1, e1⟩ : ∃ v, numV s 2 t = v := ⟨_, rfl⟩
  obtain ⟨t1, e2⟩ : ∃ v, stepS s 2 t = v := ⟨_, rfl⟩
  rw [e1, e2] at N1
  rw [e2] at hk1
  have N2 := numC (B := B) (w0 := w0) (g := g) (gr := gr) (n := 2) (by omega) hs hk1
  have hn : numV s 2 t1 < 65536 := numV_lt s 2 t1
  have hk2 := stepS_k (n := 2) hk1
  obtain ⟨n, e3⟩ : ∃ v, numV s 2 t1 = v := ⟨_, rfl⟩
  obtain ⟨t2, e4⟩ : ∃ v, stepS s 2 t1 = v := ⟨_, rfl⟩
  rw [e3, e4] at N2
  rw [e3] at hn
  rw [e4] at hk2
  have F3 := failC (B := B) (w0 := w0) (g := g) (gr := gr) (s := s) (is := decide (64 < n)) (c := 6) (t := t2)
  rw [show decide (64 < n) = decide (64 < (n : Int)) from decide_eq_decide.2 (by omega)] at F3
  have hk3 : (failS (decide (64 < n)) 6 t2).k ≤ s.size := by rw [failS_k]; exact hk2
  have h64 : n ≤ 64 ∨ (failS (decide (64 < n)) 6 t2).e ≠ 0 := by
    by_cases h : n ≤ 64
    · exact .inl h
    · right
      rw [failS_e, decide_eq_true (show 64 < n by omega), Bool.true_and]
      by_cases he : t2.e = 0
      · rw [he]; simp
      · rw [if_neg (by simpa using he)]; exact he
  have e5 : failS (decide (64 < n)) 6 t2 = ⟨t2.k, t2.b, (failS (decide (64 < (n : Int))) 6 t2).e⟩ := by
    rw [show decide (64 < n) = decide (64 < (n : Int)) from decide_eq_decide.2 (by omega)]
    have a := failS_k (decide (64 < (n : Int))) 6 t2
    have b := failS_b (decide (64 < (n : Int))) 6 t2
    rw [← a, ← b]
  have hR : repF s t = repL s n 65 0 [] ⟨t2.k, t2.b, (failS (decide (64 < (n : Int))) 6 t2).e⟩ := by
    unfold repF
    rw [e2, e3, e4, e5]
  rw [e5] at hk3 h64
  clear e5 hk hk1 hk2 e1 e2 e3 e4
  generalize (failS (decide (64 < (n : Int))) 6 t2).e = e' at *
  obtain ⟨k2, b2, ez⟩ := t2
  simp only at hR hk3 h64
  obtain ⟨res, hres⟩ : ∃ r, repF s t = r := ⟨_, rfl⟩
  rw [hres] at hR HQ
  have HL := Lib.hid hR.symm
  clear hR hres
  go_enter Tryz.func158, Tryz.ntmps158
  go_wp2_with (first | ((go_at_call 155; (first | refine N1 _ _ _ _ _ _ 0 1 rfl hH rfl rfl rfl rfl ?_ | refine N2 _ _ _ _ _ _ 0 1 rfl hH rfl rfl rfl rfl ?_); (clear hH; (first | intro W g hH | intro W hH); (try simp only [Act.put, pA, pB, pC])))) | ((go_at_call 156; refine F3 _ _ _ _ _ _ _ 0 1 rfl rfl hH rfl rfl rfl rfl ?_; (clear hH; (first | intro W g hH | intro W hH); (try simp only [Act.put, pA, pB, pC])))) | (refine st ?_; clear hH; first | intro W g hH | intro W hH))
  clear N1 N2 F3
  go_loopw [5] (fun sl wr => ∃ (j f : Nat) (X : List Rv) (t' : St) (D : HB), sl = .int .i64 (j : Int) ∧ Hid (repL s n f j (X.map Rv.r) t' = res) ∧ f + j = 65 ∧ t'.k ≤ s.size ∧ (n ≤ 64 ∨ t'.e ≠ 0) ∧ j ≤ 64 ∧ X.length ≤ j ∧ Hid (∀ r ∈ D, r.2.2.1 = true) ∧ Hid (∀ x ∈ X, ∀ B w0 W, Hp B w0 W D → AdsAt W x.p x.r.src) ∧ ((Hid (X = []) ∧ Hp B w0 wr ((g, 163, true, gSegs gr t'.e) :: (gr, 129, true, rdSegs s t') :: (gt, 29, true, [.one (.bool v6), .one (.int .i64 ver), .one (.int .i64 kind), .one (.int .i64 resp), .many G 17, .one (.bool quiet), .one (.int .i64 rob), .one (.int .i64 every), .one (.slice sp src.length sc), .one (.slice none 0 0)]) :: (H ++ D))) ∨ (∃ (go cc q : Nat) (J : List Value), Grow 19 X.length cc (X.length * 19) q ∧ OkA J q ∧ Hp B w0 wr ((go, 119, true, [.many (rvsL X) (X.length * 19), .many J q]) :: (g, 163, true, gSegs gr t'.e) :: (gr, 129, true, rdSegs s t') :: (gt, 29, true, [.one (.bool v6), .one (.int .i64 ver), .one (.int .i64 kind), .one (.int .i64 resp), .many G 17, .one (.bool quiet), .one (.int .i64 rob), .one (.int .i64 every), .one (.slice sp src.length sc), .one (.slice (some ⟨go, 0, none⟩) X.length cc)]) :: (H ++ D))))) (fun sl _ => 65 - (intOf sl).toNat)
  case atStart => exact ⟨0, 65, [], ⟨k2, b2, e'⟩, [], rfl, HL, rfl, hk3, h64, by omega, by simp, Lib.hid (by simp), Lib.hid (by simp), .inl ⟨Lib.hid rfl, by rw [List.append_nil]; exact hH⟩⟩
  case round =>
    clear hH HL hk3 h64 k2 b2 e'
    obtain ⟨j, f, X, t', D, rfl, HL, hf, hk', h64', hj64, hXj, HD, HXD, hor⟩ := hrel
    obtain ⟨k', b', e'⟩ := t'
    simp only at hk' h64' hor
    by_cases hc : j < n ∧ e' = 0
    · obtain ⟨hjn, he⟩ := hc
      subst he
      have hn64 : n ≤ 64 := by rcases h64' with h | h; exact h; exact absurd rfl h
      obtain ⟨f', rfl⟩ : ∃ f', f = f' + 1 := ⟨f - 1, by omega⟩
      obtain ⟨⟨kd, g1, L⟩, ok, t2, er⟩ : ∃ r ok t2, recF s ⟨k', b', 0⟩ = (r, ok, t2) := ⟨_, _, _, rfl⟩
      have RC := recC (B := B) (w0 := w0) (g := g) (gr := gr) hs hk' er
      have hk2 := recF_k (s := s) (t := ⟨k', b', 0⟩) hk'
      have HL2 := Lib.hid ((repL_more (f := f') ⟨hjn, rfl⟩).symm.trans HL.out)
      rw [er] at HL2 hk2
      simp only at HL2 hk2 RC
      have dj : decide ((j : Int) < (n : Int)) = true := decide_eq_true (by omega)
      have oG1 := adL_ok g1
      obtain ⟨G1, hG1⟩ : ∃ Y, Y = adL g1 := ⟨_, rfl⟩
      have HG1 := Lib.hid hG1
      rw [← hG1] at oG1
      have RC2 : ∀ (W : World) (H H1 H2 : HB) (Q : Ending → World → Prop) (i j : Nat), Hp B w0 W H → nthH H i = some (g, 163, true, gSegs gr 0) → updH H i (gSegs gr t2.e) = some H1 → nthH H1 j = some (gr, 129, true, rdSegs s ⟨k', b', 0⟩) → updH H1 j (rdSegs s t2) = some H2 → (∀ W' p c D, Hid (∀ B w0 W, Hp B w0 W D → AdsAt W p L) → Hid (∀ r ∈ D, r.2.2.1 = true) → Hp B w0 W' (H2 ++ D) → Q (.returned (.tuple #[.agg (fls [.one (.int .i64 kd), .many G1 17, .one (.slice p L.length c)]).toArray, .bool ok])) W') → Calls Tryz.prog 195 #[.pointer (some ⟨g, 0, none⟩)] W Q := by
        rw [hG1]
        exact RC
      clear RC er HL h64' hk'
      have RC := Lib.hid RC2
      clear RC2 hG1
      have HXj := Lib.hid hXj
      cases ok
      · have HL3 := Lib.hid (show repL s n f' (j + 1) (X.map Rv.r) t2 = res from HL2.out)
        clear HL2 hXj
        rcases hor with ⟨hX, hH⟩ | ⟨go, cc, q, J, hG, oJ, hH⟩
        · go_wp2_with (first | ((go_at_call 195; refine RC.out _ _ _ _ _ 0 1 hH rfl rfl rfl rfl ?_; (clear hH; intro W rp rc D' hA hD' hH); (try simp only [List.cons_append, List.append_assoc] at hH); (try simp only [Act.put, List.setIfInBounds_toArray, List.set_cons_succ, List.set_cons_zero]))) | (refine st ?_; clear hH; first | intro W g hH | intro W hH))
          refine ⟨⟨j + 1, f', X, t2, D ++ D', by simp, HL3, by omega, hk2, .inl hn64, by omega, by have := HXj.out; omega, own_app HD hD', in_app HXD, .inl ⟨hX, ?_⟩⟩, by simp [intOf]; omega⟩
          exact hH.sub (SubH.drop SubH.refl)
        · go_wp2_with (first | ((go_at_call 195; refine RC.out _ _ _ _ _ 1 2 hH rfl rfl rfl rfl ?_; (clear hH; intro W rp rc D' hA hD' hH); (try simp only [List.cons_append, List.append_assoc] at hH); (try simp only [Act.put, List.setIfInBounds_toArray, List.set_cons_succ, List.set_cons_zero]))) | (refine st ?_; clear hH; first | intro W g hH | intro W hH))
          refine ⟨⟨j + 1, f', X, t2, D ++ D', by simp, HL3, by omega, hk2, .inl hn64, by omega, by have := HXj.out; omega, own_app HD hD', in_app HXD, .inr ⟨go, cc, q, J, hG, oJ, ?_⟩⟩, by simp [intOf]; omega⟩
          exact hH.sub (SubH.drop SubH.refl)
      · have HL3 := Lib.hid (show repL s n f' (j + 1) (X.map Rv.r ++ [⟨kd, g1, L⟩]) t2 = res from HL2.out)
        clear HL2
        rcases hor with ⟨hX, hH⟩ | ⟨go, cc, q, J, hG, oJ, hH⟩
        · have hX := hX.out
          subst hX
          clear hXj
          go_wp2_with (first | ((go_at_call 195; refine RC.out _ _ _ _ _ 0 1 hH rfl rfl rfl rfl ?_; (clear hH; intro W rp rc D' hA hD' hH); (try simp only [List.cons_append, List.append_assoc] at hH); (try simp only [Act.put, List.setIfInBounds_toArray, List.set_cons_succ, List.set_cons_zero]))) | (refine st ?_; clear hH; first | intro W g hH | intro W hH))
          ((with_reducible refine regM hH (SubH.keep (SubH.keep (SubH.keep (SubH.drop SubH.refl)))) (by kernel_rfl) ?_); (clear hH; intro W hH); refine mtt [0, 1, 5] ?_; refine hm_two (fuel := 7) 2 6 rfl rfl (by kernel_rfl) ?_ ?_; (focus (go_wp2_with (first | (((first | (refine hApp0 0 tab_ok tabs_ok rfl rfl rfl rfl rfl rfl rfl hH rfl rfl rfl ?_; refine ⟨?_, ?_, ?_⟩; (focus (first | omega | (simp; omega))); (focus (first | omega | (simp; omega))))); clear hH; intro W g c p q J hG hL hJ hH; (try simp only [putH, fls, List.append_nil] at hH hL); (try simp only [Act.put, pA, pB, pC]))) | (refine st ?_; clear hH; first | intro W g hH | intro W hH)); refine me ?_; refine mtt [3] ?_; refine hm_two (fuel := 5) 4 6 rfl rfl (by kernel_rfl) ?_ ?_; (focus (go_wp2_with (first | (((first | (refine hApp0 0 tab_ok tabs_ok rfl rfl rfl rfl rfl rfl rfl hH rfl rfl rfl ?_; refine ⟨?_, ?_, ?_⟩; (focus (first | omega | (simp; omega))); (focus (first | omega | (simp; omega))))); clear hH; intro W g c p q J hG hL hJ hH; (try simp only [putH, fls, List.append_nil] at hH hL); (try simp only [Act.put, pA, pB, pC]))) | (refine st ?_; clear hH; first | intro W g hH | intro W hH)); refine me ?_; refine mo 6 ?_; go_wp2_with (first | (((first | (refine hApp0 0 tab_ok tabs_ok rfl rfl rfl rfl rfl rfl rfl hH rfl rfl rfl ?_; refine ⟨?_, ?_, ?_⟩; (focus (first | omega | (simp; omega))); (focus (first | omega | (simp; omega))))); clear hH; intro W g c p q J hG hL hJ hH; (try simp only [putH, fls, List.append_nil] at hH hL); (try simp only [Act.put, pA, pB, pC]))) | (refine st ?_; clear hH; first | intro W g hH | intro W hH)); refine me ?_; refine mo 7 ?_; go_wp2_with (first | (((first | (refine hApp0 0 tab_ok tabs_ok rfl rfl rfl rfl rfl rfl rfl hH rfl rfl rfl ?_; refine ⟨?_, ?_, ?_⟩; (focus (first | omega | (simp; omega))); (focus (first | omega | (simp; omega))))); clear hH; intro W g c p q J hG hL hJ hH; (try simp only [putH, fls, List.append_nil] at hH hL); (try simp only [Act.put, pA, pB, pC]))) | (refine st ?_; clear hH; first | intro W g hH | intro W hH)); refine me ?_; refine mo 8 ?_; go_wp2_with (first | (((first | (refine hApp0 0 tab_ok tabs_ok rfl rfl rfl rfl rfl rfl rfl hH rfl rfl rfl ?_; refine ⟨?_, ?_, ?_⟩; (focus (first | omega | (simp; omega))); (focus (first | omega | (simp; omega))))); clear hH; intro W g c p q J hG hL hJ hH; (try simp only [putH, fls, List.append_nil] at hH hL); (try simp only [Act.put, pA, pB, pC]))) | (refine st ?_; clear hH; first | intro W g hH | intro W hH)); refine me ?_; refine mtt [9] ?_; refine mo 10 ?_; go_wp2_with (first | (((first | (refine hApp0 0 tab_ok tabs_ok rfl rfl rfl rfl rfl rfl rfl hH rfl rfl rfl ?_; refine ⟨?_, ?_, ?_⟩; (focus (first | omega | (simp; omega))); (focus (first | omega | (simp; omega))))); clear hH; intro W g c p q J hG hL hJ hH; (try simp only [putH, fls, List.append_nil] at hH hL); (try simp only [Act.put, pA, pB, pC]))) | (refine st ?_; clear hH; first | intro W g hH | intro W hH)); refine me ?_; refine hm_end (by kernel_rfl) ?_)); rotate_left 1; (focus (go_wp2_with (first | (((first | (refine hApp0 0 tab_ok tabs_ok rfl rfl rfl rfl rfl rfl rfl hH rfl rfl rfl ?_; refine ⟨?_, ?_, ?_⟩; (focus (first | omega | (simp; omega))); (focus (first | omega | (simp; omega))))); clear hH; intro W g c p q J hG hL hJ hH; (try simp only [putH, fls, List.append_nil] at hH hL); (try simp only [Act.put, pA, pB, pC]))) | (refine st ?_; clear hH; first | intro W g hH | intro W hH)); refine me ?_; refine mo 4 ?_; go_wp2_with (first | (((first | (refine hApp0 0 tab_ok tabs_ok rfl rfl rfl rfl rfl rfl rfl hH rfl rfl rfl ?_; refine ⟨?_, ?_, ?_⟩; (focus (first | omega | (simp; omega))); (focus (first | omega | (simp; omega))))); clear hH; intro W g c p q J hG hL hJ hH; (try simp only [putH, fls, List.append_nil] at hH hL); (try simp only [Act.put, pA, pB, pC]))) | (refine st ?_; clear hH; first | intro W g hH | intro W hH)); refine me ?_; refine mo 7 ?_; go_wp2_with (first | (((first | (refine hApp0 0 tab_ok tabs_ok rfl rfl rfl rfl rfl rfl rfl hH rfl rfl rfl ?_; refine ⟨?_, ?_, ?_⟩; (focus (first | omega | (simp; omega))); (focus (first | omega | (simp; omega))))); clear hH; intro W g c p q J hG hL hJ hH; (try simp only [putH, fls, List.append_nil] at hH hL); (try simp only [Act.put, pA, pB, pC]))) | (refine st ?_; clear hH; first | intro W g hH | intro W hH)); refine me ?_; refine mo 8 ?_; go_wp2_with (first | (((first | (refine hApp0 0 tab_ok tabs_ok rfl rfl rfl rfl rfl rfl rfl hH rfl rfl rfl ?_; refine ⟨?_, ?_, ?_⟩; (focus (first | omega | (simp; omega))); (focus (first | omega | (simp; omega))))); clear hH; intro W g c p q J hG hL hJ hH; (try simp only [putH, fls, List.append_nil] at hH hL); (try simp only [Act.put, pA, pB, pC]))) | (refine st ?_; clear hH; first | intro W g hH | intro W hH)); refine me ?_; refine mtt [9] ?_; refine mo 10 ?_; go_wp2_with (first | (((first | (refine hApp0 0 tab_ok tabs_ok rfl rfl rfl rfl rfl rfl rfl hH rfl rfl rfl ?_; refine ⟨?_, ?_, ?_⟩; (focus (first | omega | (simp; omega))); (focus (first | omega | (simp; omega))))); clear hH; intro W g c p q J hG hL hJ hH; (try simp only [putH, fls, List.append_nil] at hH hL); (try simp only [Act.put, pA, pB, pC]))) | (refine st ?_; clear hH; first | intro W g hH | intro W hH)); refine me ?_; refine hm_end (by kernel_rfl) ?_)))); rotate_left 2; (focus (go_wp2_with (first | (((first | (refine hApp0 0 tab_ok tabs_ok rfl rfl rfl rfl rfl rfl rfl hH rfl rfl rfl ?_; refine ⟨?_, ?_, ?_⟩; (focus (first | omega | (simp; omega))); (focus (first | omega | (simp; omega))))); clear hH; intro W g c p q J hG hL hJ hH; (try simp only [putH, fls, List.append_nil] at hH hL); (try simp only [Act.put, pA, pB, pC]))) | (refine st ?_; clear hH; first | intro W g hH | intro W hH)); refine me ?_; refine mo 2 ?_; go_wp2_with (first | (((first | (refine hApp0 0 tab_ok tabs_ok rfl rfl rfl rfl rfl rfl rfl hH rfl rfl rfl ?_; refine ⟨?_, ?_, ?_⟩; (focus (first | omega | (simp; omega))); (focus (first | omega | (simp; omega))))); clear hH; intro W g c p q J hG hL hJ hH; (try simp only [putH, fls, List.append_nil] at hH hL); (try simp only [Act.put, pA, pB, pC]))) | (refine st ?_; clear hH; first | intro W g hH | intro W hH)); refine me ?_; refine mtt [3] ?_; refine mo 4 ?_; go_wp2_with (first | (((first | (refine hApp0 0 tab_ok tabs_ok rfl rfl rfl rfl rfl rfl rfl hH rfl rfl rfl ?_; refine ⟨?_, ?_, ?_⟩; (focus (first | omega | (simp; omega))); (focus (first | omega | (simp; omega))))); clear hH; intro W g c p q J hG hL hJ hH; (try simp only [putH, fls, List.append_nil] at hH hL); (try simp only [Act.put, pA, pB, pC]))) | (refine st ?_; clear hH; first | intro W g hH | intro W hH)); refine me ?_; refine mo 7 ?_; go_wp2_with (first | (((first | (refine hApp0 0 tab_ok tabs_ok rfl rfl rfl rfl rfl rfl rfl hH rfl rfl rfl ?_; refine ⟨?_, ?_, ?_⟩; (focus (first | omega | (simp; omega))); (focus (first | omega | (simp; omega))))); clear hH; intro W g c p q J hG hL hJ hH; (try simp only [putH, fls, List.append_nil] at hH hL); (try simp only [Act.put, pA, pB, pC]))) | (refine st ?_; clear hH; first | intro W g hH | intro W hH)); refine me ?_; refine mo 8 ?_; go_wp2_with (first | (((first | (refine hApp0 0 tab_ok tabs_ok rfl rfl rfl rfl rfl rfl rfl hH rfl rfl rfl ?_; refine ⟨?_, ?_, ?_⟩; (focus (first | omega | (simp; omega))); (focus (first | omega | (simp; omega))))); clear hH; intro W g c p q J hG hL hJ hH; (try simp only [putH, fls, List.append_nil] at hH hL); (try simp only [Act.put, pA, pB, pC]))) | (refine st ?_; clear hH; first | intro W g hH | intro W hH)); refine me ?_; refine mtt [9] ?_; refine mo 10 ?_; go_wp2_with (first | (((first | (refine hApp0 0 tab_ok tabs_ok rfl rfl rfl rfl rfl rfl rfl hH rfl rfl rfl ?_; refine ⟨?_, ?_, ?_⟩; (focus (first | omega | (simp; omega))); (focus (first | omega | (simp; omega))))); clear hH; intro W g c p q J hG hL hJ hH; (try simp only [putH, fls, List.append_nil] at hH hL); (try simp only [Act.put, pA, pB, pC]))) | (refine st ?_; clear hH; first | intro W g hH | intro W hH)); refine me ?_; refine hm_end (by kernel_rfl) ?_)))
          all_goals
            go_wp2_with (refine st ?_; clear hH; first | intro W g hH | intro W hH)
            have hp := hG.hp
            have hq := hG.hq
            have hle := hG.le
            have hmo := hG.most
            refine ⟨⟨j + 1, f', [⟨⟨kd, g1, L⟩, rp, rc⟩], t2, D ++ D', by simp, HL3, by omega, hk2, .inl hn64, by omega, by simp, own_app HD hD', in_one hA, .inr ⟨g, c, q, J, ⟨rfl, by rw [← hq, hp]; rfl, hle, hmo⟩, hJ, ?_⟩⟩, by simp [intOf]; omega⟩
            rw [show [(⟨⟨kd, g1, L⟩, rp, rc⟩ : Rv)].length * 19 = p by rw [hp]; rfl, show rvsL [(⟨⟨kd, g1, L⟩, rp, rc⟩ : Rv)] = .int .i64 kd :: (G1 ++ [.slice rp L.length rc]) by rw [HG1.out]; simp [rvsL, rvS, fls]]
            exact hH.sub (SubH.keep (SubH.drop (SubH.drop SubH.refl)))
        · have hX1 : X.length ≤ 64 := by omega
          clear hXj
          go_wp2_with (first | ((go_at_call 195; refine RC.out _ _ _ _ _ 1 2 hH rfl rfl rfl rfl ?_; (clear hH; intro W rp rc D' hA hD' hH); (try simp only [List.cons_append, List.append_assoc] at hH); (try simp only [Act.put, List.setIfInBounds_toArray, List.set_cons_succ, List.set_cons_zero]))) | (refine st ?_; clear hH; first | intro W g hH | intro W hH))
          ((with_reducible refine regM hH (SubH.keep (SubH.drop (SubH.keep (SubH.keep (SubH.drop SubH.refl))))) (by kernel_rfl) ?_); (clear hH; intro W hH); refine mtt [0, 1, 5] ?_; refine hm_two (fuel := 7) 2 6 rfl rfl (by kernel_rfl) ?_ ?_; (focus (go_wp2_with (first | (((first | (refine hApp 2 0 tab_ok tabs_ok rfl rfl rfl rfl rfl rfl rfl hH rfl rfl rfl rfl ?_; refine ⟨?_, ?_, ?_⟩; (focus assumption); (focus (first | omega | (simp; omega))))); clear hH; intro W g c p q J hG hL hJ hH; (try simp only [putH, fls, List.append_nil] at hH hL); (try simp only [Act.put, pA, pB, pC]))) | (refine st ?_; clear hH; first | intro W g hH | intro W hH)); refine me ?_; refine mtt [3] ?_; refine hm_two (fuel := 5) 4 6 rfl rfl (by kernel_rfl) ?_ ?_; (focus (go_wp2_with (first | (((first | (refine hApp 2 0 tab_ok tabs_ok rfl rfl rfl rfl rfl rfl rfl hH rfl rfl rfl rfl ?_; refine ⟨?_, ?_, ?_⟩; (focus assumption); (focus (first | omega | (simp; omega))))); clear hH; intro W g c p q J hG hL hJ hH; (try simp only [putH, fls, List.append_nil] at hH hL); (try simp only [Act.put, pA, pB, pC]))) | (refine st ?_; clear hH; first | intro W g hH | intro W hH)); refine me ?_; refine mo 6 ?_; go_wp2_with (first | (((first | (refine hApp 2 0 tab_ok tabs_ok rfl rfl rfl rfl rfl rfl rfl hH rfl rfl rfl rfl ?_; refine ⟨?_, ?_, ?_⟩; (focus assumption); (focus (first | omega | (simp; omega))))); clear hH; intro W g c p q J hG hL hJ hH; (try simp only [putH, fls, List.append_nil] at hH hL); (try simp only [Act.put, pA, pB, pC]))) | (refine st ?_; clear hH; first | intro W g hH | intro W hH)); refine me ?_; refine mo 7 ?_; go_wp2_with (first | (((first | (refine hApp 2 0 tab_ok tabs_ok rfl rfl rfl rfl rfl rfl rfl hH rfl rfl rfl rfl ?_; refine ⟨?_, ?_, ?_⟩; (focus assumption); (focus (first | omega | (simp; omega))))); clear hH; intro W g c p q J hG hL hJ hH; (try simp only [putH, fls, List.append_nil] at hH hL); (try simp only [Act.put, pA, pB, pC]))) | (refine st ?_; clear hH; first | intro W g hH | intro W hH)); refine me ?_; refine mo 8 ?_; go_wp2_with (first | (((first | (refine hApp 2 0 tab_ok tabs_ok rfl rfl rfl rfl rfl rfl rfl hH rfl rfl rfl rfl ?_; refine ⟨?_, ?_, ?_⟩; (focus assumption); (focus (first | omega | (simp; omega))))); clear hH; intro W g c p q J hG hL hJ hH; (try simp only [putH, fls, List.append_nil] at hH hL); (try simp only [Act.put, pA, pB, pC]))) | (refine st ?_; clear hH; first | intro W g hH | intro W hH)); refine me ?_; refine mtt [9] ?_; refine mo 10 ?_; go_wp2_with (first | (((first | (refine hApp 2 0 tab_ok tabs_ok rfl rfl rfl rfl rfl rfl rfl hH rfl rfl rfl rfl ?_; refine ⟨?_, ?_, ?_⟩; (focus assumption); (focus (first | omega | (simp; omega))))); clear hH; intro W g c p q J hG hL hJ hH; (try simp only [putH, fls, List.append_nil] at hH hL); (try simp only [Act.put, pA, pB, pC]))) | (refine st ?_; clear hH; first | intro W g hH | intro W hH)); refine me ?_; refine hm_end (by kernel_rfl) ?_)); rotate_left 1; (focus (go_wp2_with (first | (((first | (refine hApp 2 0 tab_ok tabs_ok rfl rfl rfl rfl rfl rfl rfl hH rfl rfl rfl rfl ?_; refine ⟨?_, ?_, ?_⟩; (focus assumption); (focus (first | omega | (simp; omega))))); clear hH; intro W g c p q J hG hL hJ hH; (try simp only [putH, fls, List.append_nil] at hH hL); (try simp only [Act.put, pA, pB, pC]))) | (refine st ?_; clear hH; first | intro W g hH | intro W hH)); refine me ?_; refine mo 4 ?_; go_wp2_with (first | (((first | (refine hApp 2 0 tab_ok tabs_ok rfl rfl rfl rfl rfl rfl rfl hH rfl rfl rfl rfl ?_; refine ⟨?_, ?_, ?_⟩; (focus assumption); (focus (first | omega | (simp; omega))))); clear hH; intro W g c p q J hG hL hJ hH; (try simp only [putH, fls, List.append_nil] at hH hL); (try simp only [Act.put, pA, pB, pC]))) | (refine st ?_; clear hH; first | intro W g hH | intro W hH)); refine me ?_; refine mo 7 ?_; go_wp2_with (first | (((first | (refine hApp 2 0 tab_ok tabs_ok rfl rfl rfl rfl rfl rfl rfl hH rfl rfl rfl rfl ?_; refine ⟨?_, ?_, ?_⟩; (focus assumption); (focus (first | omega | (simp; omega))))); clear hH; intro W g c p q J hG hL hJ hH; (try simp only [putH, fls, List.append_nil] at hH hL); (try simp only [Act.put, pA, pB, pC]))) | (refine st ?_; clear hH; first | intro W g hH | intro W hH)); refine me ?_; refine mo 8 ?_; go_wp2_with (first | (((first | (refine hApp 2 0 tab_ok tabs_ok rfl rfl rfl rfl rfl rfl rfl hH rfl rfl rfl rfl ?_; refine ⟨?_, ?_, ?_⟩; (focus assumption); (focus (first | omega | (simp; omega))))); clear hH; intro W g c p q J hG hL hJ hH; (try simp only [putH, fls, List.append_nil] at hH hL); (try simp only [Act.put, pA, pB, pC]))) | (refine st ?_; clear hH; first | intro W g hH | intro W hH)); refine me ?_; refine mtt [9] ?_; refine mo 10 ?_; go_wp2_with (first | (((first | (refine hApp 2 0 tab_ok tabs_ok rfl rfl rfl rfl rfl rfl rfl hH rfl rfl rfl rfl ?_; refine ⟨?_, ?_, ?_⟩; (focus assumption); (focus (first | omega | (simp; omega))))); clear hH; intro W g c p q J hG hL hJ hH; (try simp only [putH, fls, List.append_nil] at hH hL); (try simp only [Act.put, pA, pB, pC]))) | (refine st ?_; clear hH; first | intro W g hH | intro W hH)); refine me ?_; refine hm_end (by kernel_rfl) ?_)))); rotate_left 2; (focus (go_wp2_with (first | (((first | (refine hApp 2 0 tab_ok tabs_ok rfl rfl rfl rfl rfl rfl rfl hH rfl rfl rfl rfl ?_; refine ⟨?_, ?_, ?_⟩; (focus assumption); (focus (first | omega | (simp; omega))))); clear hH; intro W g c p q J hG hL hJ hH; (try simp only [putH, fls, List.append_nil] at hH hL); (try simp only [Act.put, pA, pB, pC]))) | (refine st ?_; clear hH; first | intro W g hH | intro W hH)); refine me ?_; refine mo 2 ?_; go_wp2_with (first | (((first | (refine hApp 2 0 tab_ok tabs_ok rfl rfl rfl rfl rfl rfl rfl hH rfl rfl rfl rfl ?_; refine ⟨?_, ?_, ?_⟩; (focus assumption); (focus (first | omega | (simp; omega))))); clear hH; intro W g c p q J hG hL hJ hH; (try simp only [putH, fls, List.append_nil] at hH hL); (try simp only [Act.put, pA, pB, pC]))) | (refine st ?_; clear hH; first | intro W g hH | intro W hH)); refine me ?_; refine mtt [3] ?_; refine mo 4 ?_; go_wp2_with (first | (((first | (refine hApp 2 0 tab_ok tabs_ok rfl rfl rfl rfl rfl rfl rfl hH rfl rfl rfl rfl ?_; refine ⟨?_, ?_, ?_⟩; (focus assumption); (focus (first | omega | (simp; omega))))); clear hH; intro W g c p q J hG hL hJ hH; (try simp only [putH, fls, List.append_nil] at hH hL); (try simp only [Act.put, pA, pB, pC]))) | (refine st ?_; clear hH; first | intro W g hH | intro W hH)); refine me ?_; refine mo 7 ?_; go_wp2_with (first | (((first | (refine hApp 2 0 tab_ok tabs_ok rfl rfl rfl rfl rfl rfl rfl hH rfl rfl rfl rfl ?_; refine ⟨?_, ?_, ?_⟩; (focus assumption); (focus (first | omega | (simp; omega))))); clear hH; intro W g c p q J hG hL hJ hH; (try simp only [putH, fls, List.append_nil] at hH hL); (try simp only [Act.put, pA, pB, pC]))) | (refine st ?_; clear hH; first | intro W g hH | intro W hH)); refine me ?_; refine mo 8 ?_; go_wp2_with (first | (((first | (refine hApp 2 0 tab_ok tabs_ok rfl rfl rfl rfl rfl rfl rfl hH rfl rfl rfl rfl ?_; refine ⟨?_, ?_, ?_⟩; (focus assumption); (focus (first | omega | (simp; omega))))); clear hH; intro W g c p q J hG hL hJ hH; (try simp only [putH, fls, List.append_nil] at hH hL); (try simp only [Act.put, pA, pB, pC]))) | (refine st ?_; clear hH; first | intro W g hH | intro W hH)); refine me ?_; refine mtt [9] ?_; refine mo 10 ?_; go_wp2_with (first | (((first | (refine hApp 2 0 tab_ok tabs_ok rfl rfl rfl rfl rfl rfl rfl hH rfl rfl rfl rfl ?_; refine ⟨?_, ?_, ?_⟩; (focus assumption); (focus (first | omega | (simp; omega))))); clear hH; intro W g c p q J hG hL hJ hH; (try simp only [putH, fls, List.append_nil] at hH hL); (try simp only [Act.put, pA, pB, pC]))) | (refine st ?_; clear hH; first | intro W g hH | intro W hH)); refine me ?_; refine hm_end (by kernel_rfl) ?_)))
          all_goals
            go_wp2_with (refine st ?_; clear hH; first | intro W g hH | intro W hH)
            have hp := hG.hp
            have hq := hG.hq
            have hle := hG.le
            have hmo := hG.most
            have e1 : (X ++ [(⟨⟨kd, g1, L⟩, rp, rc⟩ : Rv)]).length = X.length + 1 := by simp
            refine ⟨⟨j + 1, f', X ++ [⟨⟨kd, g1, L⟩, rp, rc⟩], t2, D ++ D', by simp, Lib.hid (by rw [List.map_append]; exact HL3.out), by omega, hk2, .inl hn64, by omega, by have := HXj.out; simp; omega, own_app HD hD', in_snoc HXD hA, .inr ⟨g, c, q, J, by rw [e1]; exact ⟨rfl, by rw [← hq, hp], hle, hmo⟩, hJ, ?_⟩⟩, by simp [intOf]; omega⟩
            rw [show (X ++ [(⟨⟨kd, g1, L⟩, rp, rc⟩ : Rv)]).length * 19 = p by rw [hp, e1], show rvsL (X ++ [(⟨⟨kd, g1, L⟩, rp, rc⟩ : Rv)]) = rvsL X ++ (.int .i64 kd :: (G1 ++ [.slice rp L.length rc])) by rw [rvsL_snoc, HG1.out]; rfl, e1]
            exact hH.sub (SubH.drop (SubH.drop SubH.refl))
    · have hcase : (n ≤ j ∧ decide ((j : Int) < (n : Int)) = false) ∨ (j < n ∧ e' ≠ 0 ∧ decide ((j : Int) < (n : Int)) = true ∧ (e' == 0) = false) := by
        by_cases h1 : j < n
        · have h2 : e' ≠ 0 := fun h => hc ⟨h1, h⟩
          exact .inr ⟨h1, h2, decide_eq_true (by omega), by simpa using h2⟩
        · exact .inl ⟨by omega, decide_eq_false (by omega)⟩
      have HE := Lib.hid ((repL_end (f := f) (X := X.map Rv.r) hc).symm.trans HL.out)
      clear hc HL
      rcases hor with ⟨hX, hH⟩ | ⟨go, cc, q, J, hG, oJ, hH⟩
      · have hX := hX.out
        subst hX
        clear hXj
        rcases hcase with ⟨h1, dj⟩ | ⟨h1, h2, dj, de⟩
        all_goals
          go_wp2_with (refine st ?_; clear hH; first | intro W g hH | intro W hH)
          go_end0
          exact HQ.out _ [] _ D none 0 (Lib.hid HE.out.symm) (Lib.hid fun _ _ _ _ => RcsAt.nil) HD hH
      · have hXm : X.length ≤ 9223372036854775807 := by omega
        clear hXj hG
        rcases hcase with ⟨h1, dj⟩ | ⟨h1, h2, dj, de⟩
        all_goals
          go_wp2_with (refine st ?_; clear hH; first | intro W g hH | intro W hH)
          go_end0
          refine HQ.out _ (X.map Rv.r) _ ((go, 119, true, [.many (rvsL X) (X.length * 19), .many J q]) :: D) (some ⟨go, 0, none⟩) cc (Lib.hid HE.out.symm) (Lib.hid fun B w0 W h => rcsAt_row hXm (by have := (h.rows.mem (i := 0) rfl).1; rwa [fls_two] at this) (fun x hx => HXD.out x hx _ _ _ (h.sub (SubH.drop SubH.refl)))) (Lib.hid fun r hr => ?_) ?_
          · rcases List.mem_cons.1 hr with rfl | hr
            · rfl
            · exact HD.out r hr
          · rw [List.length_map]
            refine hH.perm ?_
            refine (List.Perm.swap _ _ _).trans (List.Perm.cons _ ?_)
            refine (List.Perm.swap _ _ _).trans (List.Perm.cons _ ?_)
            refine (List.Perm.swap _ _ _).trans (List.Perm.cons _ ?_)
            exact List.perm_middle.symm
end
end Go.Proofs.YtdnehjhijmeihaaGreat
