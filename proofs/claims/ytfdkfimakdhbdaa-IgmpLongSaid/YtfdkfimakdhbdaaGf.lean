/-
  Contracts of package igmp: the reader's record.
-/
import Derived.Test.YtfdkfimakdhbdaaGe
import Derived.Test.YtfdkfimakdhbdaaIn
namespace Go.Proofs.Ytfdkfimakdhbdaa
-- %in
open Go.ChangeShapes Go.WideShapes Go.ChangeAt Go.RowKit
set_option linter.unusedVariables false
set_option linter.unusedSimpArgs false
set_option maxRecDepth 20000
attribute [local irreducible] wpList

abbrev gSegs (gr : Nat) (e : Int) : List Seg := [.one (.pointer (some ⟨gr, 0, none⟩)), .one (.int .i64 e)]
/-- what the reader's methods do, as facts that stay whole -/
def NumC (B : Nat) (w0 : World) (g gr : Nat) (s : ByteArray) (n : Nat) (t : St) (v : Nat) (t' : St) : Prop :=
  ∀ (W : World) (H H1 H2 : HB) (Q : Ending → World → Prop) (x : Int) (i j : Nat), x = (n : Int) → Hp B w0 W H → nthH H i = some (g, 48, true, gSegs gr t.e) → updH H i (gSegs gr t'.e) = some H1 → nthH H1 j = some (gr, 80, true, rdSegs s t) → updH H1 j (rdSegs s t') = some H2 → (∀ W', Hp B w0 W' H2 → Q (.returned (.int .i64 (v : Int))) W') → Calls Try.prog 20 #[.pointer (some ⟨g, 0, none⟩), .int .i64 x] W Q
def AddrC (B : Nat) (w0 : World) (g gr : Nat) (s : ByteArray) (t : St) (A : List Value) (t' : St) : Prop :=
  ∀ (W : World) (H H1 H2 : HB) (Q : Ending → World → Prop) (i j : Nat), Hp B w0 W H → nthH H i = some (g, 48, true, gSegs gr t.e) → updH H i (gSegs gr t'.e) = some H1 → nthH H1 j = some (gr, 80, true, rdSegs s t) → updH H1 j (rdSegs s t') = some H2 → (∀ W', Hp B w0 W' H2 → Q (.returned (.agg (fls [.many A 17]).toArray)) W') → Calls Try.prog 24 #[.pointer (some ⟨g, 0, none⟩)] W Q
def FailC (B : Nat) (w0 : World) (g gr : Nat) (s : ByteArray) (is : Bool) (c : Int) (t : St) (e' : Int) : Prop :=
  ∀ (W : World) (H H1 H2 : HB) (Q : Ending → World → Prop) (x : Bool) (y : Int) (i j : Nat), x = is → y = c → Hp B w0 W H → nthH H i = some (g, 48, true, gSegs gr t.e) → updH H i (gSegs gr e') = some H1 → nthH H1 j = some (gr, 80, true, rdSegs s t) → updH H1 j (rdSegs s t) = some H2 → (∀ W', Hp B w0 W' H2 → Q (.returned (.tuple #[])) W') → Calls Try.prog 21 #[.pointer (some ⟨g, 0, none⟩), .bool x, .int .i64 y] W Q
def SrcC (B : Nat) (w0 : World) (g gr : Nat) (s : ByteArray) (n : Nat) (t : St) (L : List Ad) (t' : St) : Prop :=
  ∀ (W : World) (H H1 H2 : HB) (Q : Ending → World → Prop) (i j : Nat), Hp B w0 W H → nthH H i = some (g, 48, true, gSegs gr t.e) → updH H i (gSegs gr t'.e) = some H1 → nthH H1 j = some (gr, 80, true, rdSegs s t) → updH H1 j (rdSegs s t') = some H2 → (∀ W' p c D, Hid (∀ B w0 W, Hp B w0 W D → AdsAt W p L) → Hid (∀ r ∈ D, r.2.2.1 = true) → Hp B w0 W' (H2 ++ D) → Q (.returned (.slice p L.length c)) W') → Calls Try.prog 54 #[.pointer (some ⟨g, 0, none⟩), .int .i64 (n : Int)] W Q
def TakeC (B : Nat) (w0 : World) (gr : Nat) (s : ByteArray) (n : Nat) (t t' : St) : Prop :=
  ∀ (W : World) (H H2 : HB) (Q : Ending → World → Prop) (x : Int) (j : Nat), x = (n : Int) → Hp B w0 W H → nthH H j = some (gr, 80, true, rdSegs s t) → updH H j (rdSegs s t') = some H2 → (∀ W', Hp B w0 W' H2 → Q (.returned (.string (rdS s t.k t.b n))) W') → Calls Try.prog 57 #[.pointer (some ⟨gr, 0, none⟩), .int .i64 x] W Q
section
variable {B : Nat} {w0 W w : World} {H : HB} {g gr : Nat} {s : ByteArray} {t : St} {Q : Ending → World → Prop}
theorem wrap_small {v : Nat} (h : v < 2 ^ 63) : wrap64 (v : Int) = (v : Int) := by
  unfold wrap64
  omega
theorem numC {n : Nat} (hn : n ≤ 4) (hs : s.size ≤ 100000) (hk : t.k ≤ s.size) : NumC B w0 g gr s n t (numV s n t) (stepS s n t) := by
  intro W H H1 H2 Q x i j hx hH h1 h2 h3 h4 hQ
  subst hx
  have hv := numV_lt s n t
  have : 256 ^ n ≤ 256 ^ 4 := Nat.pow_le_pow_right (by omega) hn
  have := wrap_small (v := numV s n t) (by omega)
  rw [← this] at hQ
  exact hINum i j (by omega) hs hk hH h1 h2 h3 h4 hQ
theorem addrC (hs : s.size ≤ 100000) (hk : t.k ≤ s.size) : AddrC B w0 g gr s t (adL (addrS s 4 t)) (stepS s 4 t) := fun W H H1 H2 Q i j hH h1 h2 h3 h4 hQ => hIAddr i j hs hk hH h1 h2 h3 h4 hQ
theorem failC {is : Bool} {c : Int} : FailC B w0 g gr s is c t (failS is c t).e := fun W H H1 H2 Q x y i j hx hy hH h1 h2 h3 h4 hQ => by subst hx; subst hy; exact hFail (t := t) i j hH h1 h2 h3 h4 hQ
theorem srcC {n : Nat} {L : List Ad} {t' : St} (hn : n < 65536) (hs : s.size ≤ 100000) (hk : t.k ≤ s.size) (he : srcF s n t = (L, t')) : SrcC B w0 g gr s n t L t' := by
  intro W H H1 H2 Q i j hH h1 h2 h3 h4 hQ
  obtain ⟨H0, p1, p2⟩ := perm2 h1 h2 h3 h4 (by decide)
  refine isources_any hn hs hk (H := H0) (hH.perm p1) ?_
  intro W' p c D L2 t2 e hA hD h
  have e2 := e.out.symm.trans he
  injection e2 with e3 e4
  subst e3
  subst e4
  refine hQ W' p c D hA hD (h.perm ?_)
  unfold rdH
  refine List.Perm.trans ?_ (p2.symm.append_right D)
  exact (List.Perm.cons _ (List.Perm.cons _ List.perm_append_comm))
theorem takeC {n : Nat} (hn : n ≤ 100000) (hs : s.size ≤ 100000) (hk : t.k ≤ s.size) : TakeC B w0 gr s n t ⟨rdK s t.k t.b n, rdB s t.k t.b n, t.e⟩ := fun W H H2 Q x j hx hH h3 h4 hQ => by
  subst hx
  exact hTakeA (n := (n : Int)) j hH h3 h4 (by omega) hk (by omega) hQ
/-- a record, whether it counts, and where the reader stands then -/
def recF (s : ByteArray) (t : St) : Rc × Bool × St :=
  let t1 := stepS s 1 t
  let t2 := stepS s 1 t1
  let t3 := stepS s 2 t2
  let t4 := stepS s 4 t3
  let L := srcF s (numV s 2 t2) t4
  (⟨numV s 1 t, addrS s 4 t3, L.1⟩, decide (1 ≤ numV s 1 t) && (decide (numV s 1 t ≤ 6) && grp4 (addrS s 4 t3)), if L.2.e = 0 then stepS s (numV s 1 t1 * 4) L.2 else L.2)
theorem recF_k (h : t.k ≤ s.size) : (recF s t).2.2.k ≤ s.size := by
  unfold recF
  simp only
  have := srcF_k (n := numV s 2 (stepS s 1 (stepS s 1 t))) (stepS_k (n := 4) (stepS_k (n := 2) (stepS_k (n := 1) (stepS_k (n := 1) h))))
  split
  · exact stepS_k this
  · exact this
set_option maxHeartbeats 2000000 in
theorem irecord_any (hs : s.size ≤ 100000) (hk : t.k ≤ s.size) (hH : Hp B w0 W (rdH g gr s t H)) (hQ : ∀ W' r ok t' p c D, Hid (recF s t = (r, ok, t')) → Hid (∀ B w0 W, Hp B w0 W D → AdsAt W p r.src) → Hid (∀ r ∈ D, r.2.2.1 = true) → Hp B w0 W' (rdH g gr s t' (H ++ D)) → Q (.returned (.tuple #[.agg (fls (rvS ⟨r, p, c⟩)).toArray, .bool ok])) W') : Calls Try.prog 55 #[.pointer (some ⟨g, 0, none⟩)] W Q := by
  have HQ := Lib.hid hQ
  clear hQ
  have N1 := numC (B := B) (w0 := w0) (g := g) (gr := gr) (n := 1) (by omega) hs hk
  have hv1 : numV s 1 t < 256 := numV_lt s 1 t
  have hk1 := stepS_k (n := 1) hk
  obtain ⟨v1, e1⟩ : ∃ v, numV s 1 t = v := ⟨_, rfl⟩
  obtain ⟨t1, e2⟩ : ∃ v, stepS s 1 t = v := ⟨_, rfl⟩
  rw [e1] at N1 hv1
  rw [e2] at N1 hk1
  have N2 := numC (B := B) (w0 := w0) (g := g) (gr := gr) (n := 1) (by omega) hs hk1
  have hv2 : numV s 1 t1 < 256 := numV_lt s 1 t1
  have hk2 := stepS_k (n := 1) hk1
  obtain ⟨v2, e3⟩ : ∃ v, numV s 1 t1 = v := ⟨_, rfl⟩
  obtain ⟨t2, e4⟩ : ∃ v, stepS s 1 t1 = v := ⟨_, rfl⟩
  rw [e3] at N2 hv2
  rw [e4] at N2 hk2
  have N3 := numC (B := B) (w0 := w0) (g := g) (gr := gr) (n := 2) (by omega) hs hk2
  have hv3 : numV s 2 t2 < 65536 := numV_lt s 2 t2
  have hk3 := stepS_k (n := 2) hk2
  obtain ⟨v3, e5⟩ : ∃ v, numV s 2 t2 = v := ⟨_, rfl⟩
  obtain ⟨t3, e6⟩ : ∃ v, stepS s 2 t2 = v := ⟨_, rfl⟩
  rw [e5] at N3 hv3
  rw [e6] at N3 hk3
  have A4 := addrC (B := B) (w0 := w0) (g := g) (gr := gr) hs hk3
  have hk4 := stepS_k (n := 4) hk3
  obtain ⟨a, e7⟩ : ∃ v, addrS s 4 t3 = v := ⟨_, rfl⟩
  obtain ⟨t4, e8⟩ : ∃ v, stepS s 4 t3 = v := ⟨_, rfl⟩
  rw [e7, e8] at A4
  rw [e8] at hk4
  have hk5 := srcF_k (n := v3) hk4
  obtain ⟨L, t5, e9⟩ : ∃ L t, srcF s v3 t4 = (L, t) := ⟨_, _, rfl⟩
  have S5 := srcC (B := B) (w0 := w0) (g := g) (gr := gr) hv3 hs hk4 e9
  rw [e9] at hk5
  have hR : recF s t = (⟨v1, a, L⟩, decide (1 ≤ v1) && (decide (v1 ≤ 6) && grp4 a), if t5.e = 0 then stepS s (v2 * 4) t5 else t5) := by
    unfold recF
    simp only [e1, e2, e3, e4, e5, e6, e7, e8, e9]
  have HR := Lib.hid hR
  clear hR e1 e2 e3 e4 e5 e6 e7 e8 e9 hk hk1 hk2 hk3 hk4 hv3
  have f1 : ∀ w, Gives Try.prog 25 #[.agg (fls [.many (adL a) 17]).toArray] w (.bool (grp4 a)) := fun w => igroup_any
  have T6 := takeC (B := B) (w0 := w0) (gr := gr) (n := v2 * 4) (by omega) hs hk5
  have F6 := failC (B := B) (w0 := w0) (g := g) (gr := gr) (s := s) (is := rdB s t5.k t5.b (v2 * 4)) (c := 3) (t := ⟨rdK s t5.k t5.b (v2 * 4), rdB s t5.k t5.b (v2 * 4), t5.e⟩)
  have e6 : stepS s (v2 * 4) t5 = ⟨rdK s t5.k t5.b (v2 * 4), rdB s t5.k t5.b (v2 * 4), (failS (rdB s t5.k t5.b (v2 * 4)) 3 ⟨rdK s t5.k t5.b (v2 * 4), rdB s t5.k t5.b (v2 * 4), t5.e⟩).e⟩ := by
    unfold stepS
    generalize rdK s t5.k t5.b (v2 * 4) = x
    generalize rdB s t5.k t5.b (v2 * 4) = y
    unfold failS
    split <;> rfl
  rw [e6] at HR
  clear e6
  generalize (failS (rdB s t5.k t5.b (v2 * 4)) 3 ⟨rdK s t5.k t5.b (v2 * 4), rdB s t5.k t5.b (v2 * 4), t5.e⟩).e = e6 at *
  generalize rdS s t5.k t5.b (v2 * 4) = x6 at *
  generalize rdK s t5.k t5.b (v2 * 4) = k6 at *
  generalize rdB s t5.k t5.b (v2 * 4) = b6 at *
  have oA := adL_ok a
  obtain ⟨k5, b5, e5⟩ := t5
  simp only at HR F6 T6
  go_enter Try.func55, Try.ntmps55
  set_option maxHeartbeats 800000 in
  by_cases he : e5 = 0
  rotate_left
  · have de : (e5 == 0) = false := by simpa using he
    rw [if_neg he] at HR
    go_wp2_with (first | ((go_at_call 20; (first | refine N1 _ _ _ _ _ _ 1 2 rfl hH rfl rfl rfl rfl ?_ | refine N2 _ _ _ _ _ _ 2 3 rfl hH rfl rfl rfl rfl ?_ | refine N3 _ _ _ _ _ _ 2 3 rfl hH rfl rfl rfl rfl ?_); (clear hH; (first | intro W g hH | intro W hH); (try simp only [Act.put, pA, pB, pC])))) | ((go_at_call 24; refine A4 _ _ _ _ _ 2 3 hH rfl rfl rfl rfl ?_; (clear hH; (first | intro W g hH | intro W hH); (try simp only [Act.put, pA, pB, pC])))) | ((go_at_call 54; refine S5 _ _ _ _ _ 2 3 hH rfl rfl rfl rfl ?_; (clear hH; intro W sp sc D hA hD hH); (try simp only [List.cons_append] at hH); (try simp only [Act.put, List.setIfInBounds_toArray, List.set_cons_succ, List.set_cons_zero]))) | ((first | (refine iL tab_ok rfl ?_ rfl hH ?_; (focus (first | exact wN rfl | exact rfl)); refine ⟨_, _, rfl, rfl, ?_⟩) | (refine iS1 tab_ok rfl ?_ rfl hH ?_; (focus (first | exact wN rfl | exact rfl)); refine ⟨_, _, _, _, rfl, rfl, rfl, rfl, rfl, ?_⟩) | (refine iSR tab_ok rfl ?_ rfl hH ?_; (focus (first | exact wN rfl | exact rfl)); refine ⟨_, _, _, _, rfl, rfl, rfl, rfl, rfl, ?_, ?_⟩; (focus (repeat (first | exact trivial | assumption | exact OkA.z (by kernel_rfl) (by kernel_rfl) | refine ⟨rfl, ?_⟩ | refine ⟨?_, ?_⟩)))) | (refine hAl tab_ok rfl ?_ hH rfl ?_; (focus (first | exact wN rfl | exact rfl))) | (refine hBd tab_ok rfl ?_ rfl rfl rfl hH ?_; (focus (first | exact wN rfl | exact rfl)); refine ⟨?_, ?_, ?_⟩; rotate_left; (focus (repeat (first | exact BR.nil | refine BR.one rfl rfl rfl ?_ | (refine BR.row rfl rfl rfl rfl ?_ ?_; (focus (repeat (first | exact trivial | assumption | exact OkA.z (by kernel_rfl) (by kernel_rfl) | refine ⟨rfl, ?_⟩ | refine ⟨?_, ?_⟩))))))))); clear hH; (first | intro W g hH | intro W hH); ((try simp only [Act.put, pA, pB, pC]))))
    by_cases h1 : v1 < 1
    · have d1 : decide ((1 : Int) ≤ (v1 : Int)) = false := decide_eq_false (by omega)
      have HR2 := Lib.hid (HR.out.trans (by rw [show decide (1 ≤ v1) = false from decide_eq_false (by omega), Bool.false_and]))
      clear HR
      clear N1 N2 N3 A4 S5 T6 F6
      ((with_reducible refine regM hH (SubH.keep (SubH.drop SubH.refl)) (by kernel_rfl) ?_); (clear hH; intro W hH); (refine hm_takes (fuel := 4) (pk 0 rfl (pk 1 rfl (pk 2 rfl (pk 3 rfl (pk 4 rfl (pk 5 rfl (pk 6 rfl (pk 7 rfl (pk 8 rfl (pk 9 rfl (pk 10 rfl (pk 11 rfl (PickR.nil))))))))))))) (by kernel_rfl) (by kernel_rfl) (fun _ _ _ _ _ h => h) hH ?_ ?_; (focus (exact SubI.h)); intro hne; (repeat (first | (go_big_quiet_want; (first | (refine qiL tab_ok rfl rfl ?_; refine ⟨_, _, rfl, rfl, ?_⟩)); (try simp only [Act.put, pA, pB, pC]); go_big_quiet_on) | go_big_quiet_step (fail))); refine hm_nil ?_; clear hne); (refine hm_one (fuel := 3) 12 rfl (by kernel_rfl) ?_; go_wp2_with (fail); refine hmQ_normal hH ?_ ?_; (focus (exact SubI.h)); (try simp only [Act.put, List.setIfInBounds_toArray, List.set_cons_succ, List.set_cons_zero])); (refine hm_takes (fuel := 2) (pk 13 rfl (PickR.nil)) (by kernel_rfl) (by kernel_rfl) (fun _ _ _ _ _ h => h) hH ?_ ?_; (focus (exact SubI.h)); intro hne; (repeat (go_big_quiet_step (fail))); refine hm_nil ?_; clear hne); (refine hm_one (fuel := 1) 14 rfl (by kernel_rfl) ?_; go_wp2_with (first | ((first | (refine iSR tab_ok rfl ?_ rfl hH ?_; (focus (first | exact wN rfl | exact rfl)); refine ⟨_, _, _, _, rfl, rfl, rfl, rfl, rfl, ?_, ?_⟩; (focus (repeat (first | exact trivial | assumption | exact OkA.z (by kernel_rfl) (by kernel_rfl) | refine ⟨rfl, ?_⟩ | refine ⟨?_, ?_⟩))))); clear hH; (first | intro W g hH | intro W hH); ((try simp only [Act.put, pA, pB, pC])))); refine hmQ_normal hH ?_ ?_; (focus (exact SubI.h)); (try simp only [Act.put, List.setIfInBounds_toArray, List.set_cons_succ, List.set_cons_zero])); (refine hm_takes (fuel := 0) (pk 15 rfl (PickR.nil)) (by kernel_rfl) (by kernel_rfl) (fun _ _ _ _ _ h => h) hH ?_ ?_; (focus (exact SubI.h)); intro hne; (repeat (go_big_quiet_step (fail))); refine hm_nil ?_; clear hne); refine hm_end (by kernel_rfl) ?_)
      go_wp2_with (fail)
      (refine iRet2 Try.results55 tab_ok rfl rfl hH ?_; refine ⟨_, _, rfl, rfl, rfl, ?_⟩)
      exact HQ.out _ _ _ _ sp sc D HR2 hA hD (hH.sub (SubH.drop (SubH.drop SubH.refl)))
    have d1 : decide ((1 : Int) ≤ (v1 : Int)) = true := decide_eq_true (by omega)
    by_cases h2 : 6 < v1
    · have d2 : decide ((v1 : Int) ≤ 6) = false := decide_eq_false (by omega)
      have HR2 := Lib.hid (HR.out.trans (by rw [show decide (v1 ≤ 6) = false from decide_eq_false (by omega), Bool.false_and, Bool.and_false]))
      clear HR
      clear N1 N2 N3 A4 S5 T6 F6
      ((with_reducible refine regM hH (SubH.keep (SubH.drop SubH.refl)) (by kernel_rfl) ?_); (clear hH; intro W hH); (refine hm_takes (fuel := 4) (pk 0 rfl (pk 1 rfl (pk 2 rfl (pk 3 rfl (pk 4 rfl (pk 5 rfl (pk 6 rfl (pk 7 rfl (pk 8 rfl (pk 9 rfl (pk 10 rfl (pk 11 rfl (PickR.nil))))))))))))) (by kernel_rfl) (by kernel_rfl) (fun _ _ _ _ _ h => h) hH ?_ ?_; (focus (exact SubI.h)); intro hne; (repeat (first | (go_big_quiet_want; (first | (refine qiL tab_ok rfl rfl ?_; refine ⟨_, _, rfl, rfl, ?_⟩)); (try simp only [Act.put, pA, pB, pC]); go_big_quiet_on) | go_big_quiet_step (fail))); refine hm_nil ?_; clear hne); (refine hm_one (fuel := 3) 12 rfl (by kernel_rfl) ?_; go_wp2_with (fail); refine hmQ_normal hH ?_ ?_; (focus (exact SubI.h)); (try simp only [Act.put, List.setIfInBounds_toArray, List.set_cons_succ, List.set_cons_zero])); (refine hm_takes (fuel := 2) (pk 13 rfl (PickR.nil)) (by kernel_rfl) (by kernel_rfl) (fun _ _ _ _ _ h => h) hH ?_ ?_; (focus (exact SubI.h)); intro hne; (repeat (go_big_quiet_step (fail))); refine hm_nil ?_; clear hne); (refine hm_one (fuel := 1) 14 rfl (by kernel_rfl) ?_; go_wp2_with (first | ((first | (refine iSR tab_ok rfl ?_ rfl hH ?_; (focus (first | exact wN rfl | exact rfl)); refine ⟨_, _, _, _, rfl, rfl, rfl, rfl, rfl, ?_, ?_⟩; (focus (repeat (first | exact trivial | assumption | exact OkA.z (by kernel_rfl) (by kernel_rfl) | refine ⟨rfl, ?_⟩ | refine ⟨?_, ?_⟩))))); clear hH; (first | intro W g hH | intro W hH); ((try simp only [Act.put, pA, pB, pC])))); refine hmQ_normal hH ?_ ?_; (focus (exact SubI.h)); (try simp only [Act.put, List.setIfInBounds_toArray, List.set_cons_succ, List.set_cons_zero])); (refine hm_takes (fuel := 0) (pk 15 rfl (PickR.nil)) (by kernel_rfl) (by kernel_rfl) (fun _ _ _ _ _ h => h) hH ?_ ?_; (focus (exact SubI.h)); intro hne; (repeat (go_big_quiet_step (fail))); refine hm_nil ?_; clear hne); refine hm_end (by kernel_rfl) ?_)
      go_wp2_with (fail)
      (refine iRet2 Try.results55 tab_ok rfl rfl hH ?_; refine ⟨_, _, rfl, rfl, rfl, ?_⟩)
      exact HQ.out _ _ _ _ sp sc D HR2 hA hD (hH.sub (SubH.drop (SubH.drop SubH.refl)))
    have d2 : decide ((v1 : Int) ≤ 6) = true := decide_eq_true (by omega)
    have HR2 := Lib.hid (HR.out.trans (by rw [show decide (v1 ≤ 6) = true from decide_eq_true (by omega), show decide (1 ≤ v1) = true from decide_eq_true (by omega), Bool.true_and, Bool.true_and]))
    clear HR
    generalize grp4 a = gb at *
    cases gb
    · skip
      clear N1 N2 N3 A4 S5 T6 F6
      ((with_reducible refine regM hH (SubH.keep (SubH.drop SubH.refl)) (by kernel_rfl) ?_); (clear hH; intro W hH); (refine hm_takes (fuel := 4) (pk 0 rfl (pk 1 rfl (pk 2 rfl (pk 3 rfl (pk 4 rfl (pk 5 rfl (pk 6 rfl (pk 7 rfl (pk 8 rfl (pk 9 rfl (pk 10 rfl (pk 11 rfl (PickR.nil))))))))))))) (by kernel_rfl) (by kernel_rfl) (fun _ _ _ _ _ h => h) hH ?_ ?_; (focus (exact SubI.h)); intro hne; (repeat (first | (go_big_quiet_want; (first | (refine qiL tab_ok rfl rfl ?_; refine ⟨_, _, rfl, rfl, ?_⟩)); (try simp only [Act.put, pA, pB, pC]); go_big_quiet_on) | go_big_quiet_step (fail))); refine hm_nil ?_; clear hne); (refine hm_one (fuel := 3) 12 rfl (by kernel_rfl) ?_; go_wp2_with (first | ((first | ((with_reducible refine callH hH ?_); refine ⟨?_, ?_, ?_⟩; rotate_left; (focus (first | (with_reducible exact f1 _))))); clear hH; (first | intro W g hH | intro W hH); ((try simp only [Act.put, pA, pB, pC])))); refine hmQ_normal hH ?_ ?_; (focus (exact SubI.h)); (try simp only [Act.put, List.setIfInBounds_toArray, List.set_cons_succ, List.set_cons_zero])); (refine hm_takes (fuel := 2) (pk 13 rfl (PickR.nil)) (by kernel_rfl) (by kernel_rfl) (fun _ _ _ _ _ h => h) hH ?_ ?_; (focus (exact SubI.h)); intro hne; (repeat (go_big_quiet_step (fail))); refine hm_nil ?_; clear hne); (refine hm_one (fuel := 1) 14 rfl (by kernel_rfl) ?_; go_wp2_with (first | ((first | (refine iSR tab_ok rfl ?_ rfl hH ?_; (focus (first | exact wN rfl | exact rfl)); refine ⟨_, _, _, _, rfl, rfl, rfl, rfl, rfl, ?_, ?_⟩; (focus (repeat (first | exact trivial | assumption | exact OkA.z (by kernel_rfl) (by kernel_rfl) | refine ⟨rfl, ?_⟩ | refine ⟨?_, ?_⟩))))); clear hH; (first | intro W g hH | intro W hH); ((try simp only [Act.put, pA, pB, pC])))); refine hmQ_normal hH ?_ ?_; (focus (exact SubI.h)); (try simp only [Act.put, List.setIfInBounds_toArray, List.set_cons_succ, List.set_cons_zero])); (refine hm_takes (fuel := 0) (pk 15 rfl (PickR.nil)) (by kernel_rfl) (by kernel_rfl) (fun _ _ _ _ _ h => h) hH ?_ ?_; (focus (exact SubI.h)); intro hne; (repeat (go_big_quiet_step (fail))); refine hm_nil ?_; clear hne); refine hm_end (by kernel_rfl) ?_)
      go_wp2_with (fail)
      (refine iRet2 Try.results55 tab_ok rfl rfl hH ?_; refine ⟨_, _, rfl, rfl, rfl, ?_⟩)
      exact HQ.out _ _ _ _ sp sc D HR2 hA hD (hH.sub (SubH.drop (SubH.drop SubH.refl)))
    · skip
      clear N1 N2 N3 A4 S5 T6 F6
      ((with_reducible refine regM hH (SubH.keep (SubH.drop SubH.refl)) (by kernel_rfl) ?_); (clear hH; intro W hH); (refine hm_takes (fuel := 4) (pk 0 rfl (pk 1 rfl (pk 2 rfl (pk 3 rfl (pk 4 rfl (pk 5 rfl (pk 6 rfl (pk 7 rfl (pk 8 rfl (pk 9 rfl (pk 10 rfl (pk 11 rfl (PickR.nil))))))))))))) (by kernel_rfl) (by kernel_rfl) (fun _ _ _ _ _ h => h) hH ?_ ?_; (focus (exact SubI.h)); intro hne; (repeat (first | (go_big_quiet_want; (first | (refine qiL tab_ok rfl rfl ?_; refine ⟨_, _, rfl, rfl, ?_⟩)); (try simp only [Act.put, pA, pB, pC]); go_big_quiet_on) | go_big_quiet_step (fail))); refine hm_nil ?_; clear hne); (refine hm_one (fuel := 3) 12 rfl (by kernel_rfl) ?_; go_wp2_with (first | ((first | ((with_reducible refine callH hH ?_); refine ⟨?_, ?_, ?_⟩; rotate_left; (focus (first | (with_reducible exact f1 _))))); clear hH; (first | intro W g hH | intro W hH); ((try simp only [Act.put, pA, pB, pC])))); refine hmQ_normal hH ?_ ?_; (focus (exact SubI.h)); (try simp only [Act.put, List.setIfInBounds_toArray, List.set_cons_succ, List.set_cons_zero])); (refine hm_takes (fuel := 2) (pk 13 rfl (PickR.nil)) (by kernel_rfl) (by kernel_rfl) (fun _ _ _ _ _ h => h) hH ?_ ?_; (focus (exact SubI.h)); intro hne; (repeat (go_big_quiet_step (fail))); refine hm_nil ?_; clear hne); (refine hm_one (fuel := 1) 14 rfl (by kernel_rfl) ?_; go_wp2_with (first | ((first | (refine iSR tab_ok rfl ?_ rfl hH ?_; (focus (first | exact wN rfl | exact rfl)); refine ⟨_, _, _, _, rfl, rfl, rfl, rfl, rfl, ?_, ?_⟩; (focus (repeat (first | exact trivial | assumption | exact OkA.z (by kernel_rfl) (by kernel_rfl) | refine ⟨rfl, ?_⟩ | refine ⟨?_, ?_⟩))))); clear hH; (first | intro W g hH | intro W hH); ((try simp only [Act.put, pA, pB, pC])))); refine hmQ_normal hH ?_ ?_; (focus (exact SubI.h)); (try simp only [Act.put, List.setIfInBounds_toArray, List.set_cons_succ, List.set_cons_zero])); (refine hm_takes (fuel := 0) (pk 15 rfl (PickR.nil)) (by kernel_rfl) (by kernel_rfl) (fun _ _ _ _ _ h => h) hH ?_ ?_; (focus (exact SubI.h)); intro hne; (repeat (go_big_quiet_step (fail))); refine hm_nil ?_; clear hne); refine hm_end (by kernel_rfl) ?_)
      go_wp2_with (fail)
      (refine iRet2 Try.results55 tab_ok rfl rfl hH ?_; refine ⟨_, _, rfl, rfl, rfl, ?_⟩)
      exact HQ.out _ _ _ _ sp sc D HR2 hA hD (hH.sub (SubH.drop (SubH.drop SubH.refl)))
  · subst he
    rw [if_pos rfl] at HR
    go_wp2_with (first | ((go_at_call 20; (first | refine N1 _ _ _ _ _ _ 1 2 rfl hH rfl rfl rfl rfl ?_ | refine N2 _ _ _ _ _ _ 2 3 rfl hH rfl rfl rfl rfl ?_ | refine N3 _ _ _ _ _ _ 2 3 rfl hH rfl rfl rfl rfl ?_); (clear hH; (first | intro W g hH | intro W hH); (try simp only [Act.put, pA, pB, pC])))) | ((go_at_call 24; refine A4 _ _ _ _ _ 2 3 hH rfl rfl rfl rfl ?_; (clear hH; (first | intro W g hH | intro W hH); (try simp only [Act.put, pA, pB, pC])))) | ((go_at_call 54; refine S5 _ _ _ _ _ 2 3 hH rfl rfl rfl rfl ?_; (clear hH; intro W sp sc D hA hD hH); (try simp only [List.cons_append] at hH); (try simp only [Act.put, List.setIfInBounds_toArray, List.set_cons_succ, List.set_cons_zero]))) | ((go_at_call 57; refine T6 _ _ _ _ _ 3 rfl hH rfl rfl ?_; (clear hH; (first | intro W g hH | intro W hH); (try simp only [Act.put, pA, pB, pC])))) | ((go_at_call 50; refine hBad (s := s) (k := k6) (bad := b6) 3 hH rfl ?_; (clear hH; (first | intro W g hH | intro W hH); (try simp only [Act.put, pA, pB, pC])))) | ((go_at_call 21; refine F6 _ _ _ _ _ _ _ 2 3 rfl rfl hH rfl rfl rfl rfl ?_; (clear hH; (first | intro W g hH | intro W hH); (try simp only [Act.put, pA, pB, pC])))) | ((first | (refine iL tab_ok rfl ?_ rfl hH ?_; (focus (first | exact wN rfl | exact rfl)); refine ⟨_, _, rfl, rfl, ?_⟩) | (refine iS1 tab_ok rfl ?_ rfl hH ?_; (focus (first | exact wN rfl | exact rfl)); refine ⟨_, _, _, _, rfl, rfl, rfl, rfl, rfl, ?_⟩) | (refine iSR tab_ok rfl ?_ rfl hH ?_; (focus (first | exact wN rfl | exact rfl)); refine ⟨_, _, _, _, rfl, rfl, rfl, rfl, rfl, ?_, ?_⟩; (focus (repeat (first | exact trivial | assumption | exact OkA.z (by kernel_rfl) (by kernel_rfl) | refine ⟨rfl, ?_⟩ | refine ⟨?_, ?_⟩)))) | (refine hAl tab_ok rfl ?_ hH rfl ?_; (focus (first | exact wN rfl | exact rfl))) | (refine hBd tab_ok rfl ?_ rfl rfl rfl hH ?_; (focus (first | exact wN rfl | exact rfl)); refine ⟨?_, ?_, ?_⟩; rotate_left; (focus (repeat (first | exact BR.nil | refine BR.one rfl rfl rfl ?_ | (refine BR.row rfl rfl rfl rfl ?_ ?_; (focus (repeat (first | exact trivial | assumption | exact OkA.z (by kernel_rfl) (by kernel_rfl) | refine ⟨rfl, ?_⟩ | refine ⟨?_, ?_⟩))))))))); clear hH; (first | intro W g hH | intro W hH); ((try simp only [Act.put, pA, pB, pC]))))
    by_cases h1 : v1 < 1
    · have d1 : decide ((1 : Int) ≤ (v1 : Int)) = false := decide_eq_false (by omega)
      have HR2 := Lib.hid (HR.out.trans (by rw [show decide (1 ≤ v1) = false from decide_eq_false (by omega), Bool.false_and]))
      clear HR
      clear N1 N2 N3 A4 S5 T6 F6
      ((with_reducible refine regM hH (SubH.keep (SubH.drop SubH.refl)) (by kernel_rfl) ?_); (clear hH; intro W hH); (refine hm_takes (fuel := 4) (pk 0 rfl (pk 1 rfl (pk 2 rfl (pk 3 rfl (pk 4 rfl (pk 5 rfl (pk 6 rfl (pk 7 rfl (pk 8 rfl (pk 9 rfl (pk 10 rfl (pk 11 rfl (PickR.nil))))))))))))) (by kernel_rfl) (by kernel_rfl) (fun _ _ _ _ _ h => h) hH ?_ ?_; (focus (exact SubI.h)); intro hne; (repeat (first | (go_big_quiet_want; (first | (refine qiL tab_ok rfl rfl ?_; refine ⟨_, _, rfl, rfl, ?_⟩)); (try simp only [Act.put, pA, pB, pC]); go_big_quiet_on) | go_big_quiet_step (fail))); refine hm_nil ?_; clear hne); (refine hm_one (fuel := 3) 12 rfl (by kernel_rfl) ?_; go_wp2_with (fail); refine hmQ_normal hH ?_ ?_; (focus (exact SubI.h)); (try simp only [Act.put, List.setIfInBounds_toArray, List.set_cons_succ, List.set_cons_zero])); (refine hm_takes (fuel := 2) (pk 13 rfl (PickR.nil)) (by kernel_rfl) (by kernel_rfl) (fun _ _ _ _ _ h => h) hH ?_ ?_; (focus (exact SubI.h)); intro hne; (repeat (go_big_quiet_step (fail))); refine hm_nil ?_; clear hne); (refine hm_one (fuel := 1) 14 rfl (by kernel_rfl) ?_; go_wp2_with (first | ((first | (refine iSR tab_ok rfl ?_ rfl hH ?_; (focus (first | exact wN rfl | exact rfl)); refine ⟨_, _, _, _, rfl, rfl, rfl, rfl, rfl, ?_, ?_⟩; (focus (repeat (first | exact trivial | assumption | exact OkA.z (by kernel_rfl) (by kernel_rfl) | refine ⟨rfl, ?_⟩ | refine ⟨?_, ?_⟩))))); clear hH; (first | intro W g hH | intro W hH); ((try simp only [Act.put, pA, pB, pC])))); refine hmQ_normal hH ?_ ?_; (focus (exact SubI.h)); (try simp only [Act.put, List.setIfInBounds_toArray, List.set_cons_succ, List.set_cons_zero])); (refine hm_takes (fuel := 0) (pk 15 rfl (PickR.nil)) (by kernel_rfl) (by kernel_rfl) (fun _ _ _ _ _ h => h) hH ?_ ?_; (focus (exact SubI.h)); intro hne; (repeat (go_big_quiet_step (fail))); refine hm_nil ?_; clear hne); refine hm_end (by kernel_rfl) ?_)
      go_wp2_with (fail)
      (refine iRet2 Try.results55 tab_ok rfl rfl hH ?_; refine ⟨_, _, rfl, rfl, rfl, ?_⟩)
      exact HQ.out _ _ _ _ sp sc D HR2 hA hD (hH.sub (SubH.drop (SubH.drop SubH.refl)))
    have d1 : decide ((1 : Int) ≤ (v1 : Int)) = true := decide_eq_true (by omega)
    by_cases h2 : 6 < v1
    · have d2 : decide ((v1 : Int) ≤ 6) = false := decide_eq_false (by omega)
      have HR2 := Lib.hid (HR.out.trans (by rw [show decide (v1 ≤ 6) = false from decide_eq_false (by omega), Bool.false_and, Bool.and_false]))
      clear HR
      clear N1 N2 N3 A4 S5 T6 F6
      ((with_reducible refine regM hH (SubH.keep (SubH.drop SubH.refl)) (by kernel_rfl) ?_); (clear hH; intro W hH); (refine hm_takes (fuel := 4) (pk 0 rfl (pk 1 rfl (pk 2 rfl (pk 3 rfl (pk 4 rfl (pk 5 rfl (pk 6 rfl (pk 7 rfl (pk 8 rfl (pk 9 rfl (pk 10 rfl (pk 11 rfl (PickR.nil))))))))))))) (by kernel_rfl) (by kernel_rfl) (fun _ _ _ _ _ h => h) hH ?_ ?_; (focus (exact SubI.h)); intro hne; (repeat (first | (go_big_quiet_want; (first | (refine qiL tab_ok rfl rfl ?_; refine ⟨_, _, rfl, rfl, ?_⟩)); (try simp only [Act.put, pA, pB, pC]); go_big_quiet_on) | go_big_quiet_step (fail))); refine hm_nil ?_; clear hne); (refine hm_one (fuel := 3) 12 rfl (by kernel_rfl) ?_; go_wp2_with (fail); refine hmQ_normal hH ?_ ?_; (focus (exact SubI.h)); (try simp only [Act.put, List.setIfInBounds_toArray, List.set_cons_succ, List.set_cons_zero])); (refine hm_takes (fuel := 2) (pk 13 rfl (PickR.nil)) (by kernel_rfl) (by kernel_rfl) (fun _ _ _ _ _ h => h) hH ?_ ?_; (focus (exact SubI.h)); intro hne; (repeat (go_big_quiet_step (fail))); refine hm_nil ?_; clear hne); (refine hm_one (fuel := 1) 14 rfl (by kernel_rfl) ?_; go_wp2_with (first | ((first | (refine iSR tab_ok rfl ?_ rfl hH ?_; (focus (first | exact wN rfl | exact rfl)); refine ⟨_, _, _, _, rfl, rfl, rfl, rfl, rfl, ?_, ?_⟩; (focus (repeat (first | exact trivial | assumption | exact OkA.z (by kernel_rfl) (by kernel_rfl) | refine ⟨rfl, ?_⟩ | refine ⟨?_, ?_⟩))))); clear hH; (first | intro W g hH | intro W hH); ((try simp only [Act.put, pA, pB, pC])))); refine hmQ_normal hH ?_ ?_; (focus (exact SubI.h)); (try simp only [Act.put, List.setIfInBounds_toArray, List.set_cons_succ, List.set_cons_zero])); (refine hm_takes (fuel := 0) (pk 15 rfl (PickR.nil)) (by kernel_rfl) (by kernel_rfl) (fun _ _ _ _ _ h => h) hH ?_ ?_; (focus (exact SubI.h)); intro hne; (repeat (go_big_quiet_step (fail))); refine hm_nil ?_; clear hne); refine hm_end (by kernel_rfl) ?_)
      go_wp2_with (fail)
      (refine iRet2 Try.results55 tab_ok rfl rfl hH ?_; refine ⟨_, _, rfl, rfl, rfl, ?_⟩)
      exact HQ.out _ _ _ _ sp sc D HR2 hA hD (hH.sub (SubH.drop (SubH.drop SubH.refl)))
    have d2 : decide ((v1 : Int) ≤ 6) = true := decide_eq_true (by omega)
    have HR2 := Lib.hid (HR.out.trans (by rw [show decide (v1 ≤ 6) = true from decide_eq_true (by omega), show decide (1 ≤ v1) = true from decide_eq_true (by omega), Bool.true_and, Bool.true_and]))
    clear HR
    generalize grp4 a = gb at *
    cases gb
    · skip
      clear N1 N2 N3 A4 S5 T6 F6
      ((with_reducible refine regM hH (SubH.keep (SubH.drop SubH.refl)) (by kernel_rfl) ?_); (clear hH; intro W hH); (refine hm_takes (fuel := 4) (pk 0 rfl (pk 1 rfl (pk 2 rfl (pk 3 rfl (pk 4 rfl (pk 5 rfl (pk 6 rfl (pk 7 rfl (pk 8 rfl (pk 9 rfl (pk 10 rfl (pk 11 rfl (PickR.nil))))))))))))) (by kernel_rfl) (by kernel_rfl) (fun _ _ _ _ _ h => h) hH ?_ ?_; (focus (exact SubI.h)); intro hne; (repeat (first | (go_big_quiet_want; (first | (refine qiL tab_ok rfl rfl ?_; refine ⟨_, _, rfl, rfl, ?_⟩)); (try simp only [Act.put, pA, pB, pC]); go_big_quiet_on) | go_big_quiet_step (fail))); refine hm_nil ?_; clear hne); (refine hm_one (fuel := 3) 12 rfl (by kernel_rfl) ?_; go_wp2_with (first | ((first | ((with_reducible refine callH hH ?_); refine ⟨?_, ?_, ?_⟩; rotate_left; (focus (first | (with_reducible exact f1 _))))); clear hH; (first | intro W g hH | intro W hH); ((try simp only [Act.put, pA, pB, pC])))); refine hmQ_normal hH ?_ ?_; (focus (exact SubI.h)); (try simp only [Act.put, List.setIfInBounds_toArray, List.set_cons_succ, List.set_cons_zero])); (refine hm_takes (fuel := 2) (pk 13 rfl (PickR.nil)) (by kernel_rfl) (by kernel_rfl) (fun _ _ _ _ _ h => h) hH ?_ ?_; (focus (exact SubI.h)); intro hne; (repeat (go_big_quiet_step (fail))); refine hm_nil ?_; clear hne); (refine hm_one (fuel := 1) 14 rfl (by kernel_rfl) ?_; go_wp2_with (first | ((first | (refine iSR tab_ok rfl ?_ rfl hH ?_; (focus (first | exact wN rfl | exact rfl)); refine ⟨_, _, _, _, rfl, rfl, rfl, rfl, rfl, ?_, ?_⟩; (focus (repeat (first | exact trivial | assumption | exact OkA.z (by kernel_rfl) (by kernel_rfl) | refine ⟨rfl, ?_⟩ | refine ⟨?_, ?_⟩))))); clear hH; (first | intro W g hH | intro W hH); ((try simp only [Act.put, pA, pB, pC])))); refine hmQ_normal hH ?_ ?_; (focus (exact SubI.h)); (try simp only [Act.put, List.setIfInBounds_toArray, List.set_cons_succ, List.set_cons_zero])); (refine hm_takes (fuel := 0) (pk 15 rfl (PickR.nil)) (by kernel_rfl) (by kernel_rfl) (fun _ _ _ _ _ h => h) hH ?_ ?_; (focus (exact SubI.h)); intro hne; (repeat (go_big_quiet_step (fail))); refine hm_nil ?_; clear hne); refine hm_end (by kernel_rfl) ?_)
      go_wp2_with (fail)
      (refine iRet2 Try.results55 tab_ok rfl rfl hH ?_; refine ⟨_, _, rfl, rfl, rfl, ?_⟩)
      exact HQ.out _ _ _ _ sp sc D HR2 hA hD (hH.sub (SubH.drop (SubH.drop SubH.refl)))
    · skip
      clear N1 N2 N3 A4 S5 T6 F6
      ((with_reducible refine regM hH (SubH.keep (SubH.drop SubH.refl)) (by kernel_rfl) ?_); (clear hH; intro W hH); (refine hm_takes (fuel := 4) (pk 0 rfl (pk 1 rfl (pk 2 rfl (pk 3 rfl (pk 4 rfl (pk 5 rfl (pk 6 rfl (pk 7 rfl (pk 8 rfl (pk 9 rfl (pk 10 rfl (pk 11 rfl (PickR.nil))))))))))))) (by kernel_rfl) (by kernel_rfl) (fun _ _ _ _ _ h => h) hH ?_ ?_; (focus (exact SubI.h)); intro hne; (repeat (first | (go_big_quiet_want; (first | (refine qiL tab_ok rfl rfl ?_; refine ⟨_, _, rfl, rfl, ?_⟩)); (try simp only [Act.put, pA, pB, pC]); go_big_quiet_on) | go_big_quiet_step (fail))); refine hm_nil ?_; clear hne); (refine hm_one (fuel := 3) 12 rfl (by kernel_rfl) ?_; go_wp2_with (first | ((first | ((with_reducible refine callH hH ?_); refine ⟨?_, ?_, ?_⟩; rotate_left; (focus (first | (with_reducible exact f1 _))))); clear hH; (first | intro W g hH | intro W hH); ((try simp only [Act.put, pA, pB, pC])))); refine hmQ_normal hH ?_ ?_; (focus (exact SubI.h)); (try simp only [Act.put, List.setIfInBounds_toArray, List.set_cons_succ, List.set_cons_zero])); (refine hm_takes (fuel := 2) (pk 13 rfl (PickR.nil)) (by kernel_rfl) (by kernel_rfl) (fun _ _ _ _ _ h => h) hH ?_ ?_; (focus (exact SubI.h)); intro hne; (repeat (go_big_quiet_step (fail))); refine hm_nil ?_; clear hne); (refine hm_one (fuel := 1) 14 rfl (by kernel_rfl) ?_; go_wp2_with (first | ((first | (refine iSR tab_ok rfl ?_ rfl hH ?_; (focus (first | exact wN rfl | exact rfl)); refine ⟨_, _, _, _, rfl, rfl, rfl, rfl, rfl, ?_, ?_⟩; (focus (repeat (first | exact trivial | assumption | exact OkA.z (by kernel_rfl) (by kernel_rfl) | refine ⟨rfl, ?_⟩ | refine ⟨?_, ?_⟩))))); clear hH; (first | intro W g hH | intro W hH); ((try simp only [Act.put, pA, pB, pC])))); refine hmQ_normal hH ?_ ?_; (focus (exact SubI.h)); (try simp only [Act.put, List.setIfInBounds_toArray, List.set_cons_succ, List.set_cons_zero])); (refine hm_takes (fuel := 0) (pk 15 rfl (PickR.nil)) (by kernel_rfl) (by kernel_rfl) (fun _ _ _ _ _ h => h) hH ?_ ?_; (focus (exact SubI.h)); intro hne; (repeat (go_big_quiet_step (fail))); refine hm_nil ?_; clear hne); refine hm_end (by kernel_rfl) ?_)
      go_wp2_with (fail)
      (refine iRet2 Try.results55 tab_ok rfl rfl hH ?_; refine ⟨_, _, rfl, rfl, rfl, ?_⟩)
      exact HQ.out _ _ _ _ sp sc D HR2 hA hD (hH.sub (SubH.drop (SubH.drop SubH.refl)))
end
end Go.Proofs.Ytfdkfimakdhbdaa
