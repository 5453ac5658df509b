/-
  The laws of layer 2 (sum): 'SumRaw', 'SumChecks', 'SumUpdates', 'SumParts', 'SumPseudo'.
-/
import Derived.Test.YtelbaoiihbhdpaaSum
import Derived.Test.YtelbaoiihbhdpaaMix
namespace Go.Proofs.Ytelbaoiihbhdpaa
open Go.ChangeShapes Go.WideShapes Go.ChangeAt Go.RowKit
set_option linter.unusedVariables false
set_option linter.unusedSimpArgs false

theorem own : ownKnob Try.prog.godebug = none := by kernel_rfl
theorem lives02_any {w : World} : Gives Try.prog 12 #[] w (.bool true) := by
  refine Gives.of ?_
  have hs : ∀ w g c, Row w g 9 #[.string ⟨#[1, 2, 3]⟩] → Gives Try.prog 16 #[.slice (some ⟨g, 0, none⟩) 1 c] w (.int .i64 1026) := fun w g c h => by
    have h := Sum_row (m := 1) (c := c) (ss := [⟨#[1, 2, 3]⟩]) rfl (small1 (by decide)) h
    rwa [show foldN (wsum (flat [⟨#[1, 2, 3]⟩])) = 1026 by decide] at h
  have hc : ∀ w g c, Row w g 9 #[.string ⟨#[255, 255]⟩] → Gives Try.prog 9 #[.slice (some ⟨g, 0, none⟩) 1 c] w (.int .i64 0) := fun w g c h => by
    have h := Check_row (m := 1) (c := c) (ss := [⟨#[255, 255]⟩]) rfl (small1 (by decide)) h
    rwa [show 65535 - foldN (wsum (flat [⟨#[255, 255]⟩])) = 0 by decide] at h
  have hg : ∀ w g c, Row w g 9 #[.string ⟨#[1]⟩, .string ⟨#[2]⟩, .string ⟨#[254, 253]⟩] → Gives Try.prog 10 #[.slice (some ⟨g, 0, none⟩) 3 c] w (.bool true) := fun w g c h => by
    have h := Good_row (m := 3) (c := c) (ss := [⟨#[1]⟩, ⟨#[2]⟩, ⟨#[254, 253]⟩]) rfl (small3 (by decide) (by decide) (by decide)) h
    rwa [show decide (foldN (wsum (flat [⟨#[1]⟩, ⟨#[2]⟩, ⟨#[254, 253]⟩])) = 65535) = true by decide] at h
  have hn : ∀ w g c, Row w g 9 #[.string ⟨#[]⟩] → Gives Try.prog 10 #[.slice (some ⟨g, 0, none⟩) 1 c] w (.bool false) := fun w g c h => by
    have h := Good_row (m := 1) (c := c) (ss := [⟨#[]⟩]) rfl (small1 (by decide)) h
    rwa [show decide (foldN (wsum (flat [⟨#[]⟩])) = 65535) = false by decide] at h
  go_enter Try.func12, Try.ntmps12
  go_wp2_with ((with_reducible (first | apply Gives.call_bw (Nat.le_refl _) | apply Gives.call)); (focus (first | (with_reducible exact hs _ _ _ (Row.new _ _ _)) | (with_reducible exact hc _ _ _ (Row.new _ _ _)) | (with_reducible exact hg _ _ _ (Row.new _ _ _)) | (with_reducible exact hn _ _ _ (Row.new _ _ _)))); intro x)
  go_ret
  exact ⟨rfl, by (first | (simp; done) | (repeat (first | assumption | exact Below.refl _ _ | (refine below_bw _ ?_ ?_; rotate_left; focus ((first | omega | (repeat (first | assumption | exact Nat.le_refl _ | refine BW.le_of ?_ | refine le_alloc ?_ | refine le_drew ?_ | refine le_drewN ?_ | refine le_set ?_ | refine le_plus ?_ ))))) | (refine Below.alloc ?_ ?_ _; rotate_left; focus ((first | omega | (repeat (first | assumption | exact Nat.le_refl _ | refine BW.le_of ?_ | refine le_alloc ?_ | refine le_drew ?_ | refine le_drewN ?_ | refine le_set ?_ | refine le_plus ?_ ))))) | (refine Below.setCell ?_ ?_ _; rotate_left; focus ((first | omega | (repeat (first | assumption | exact Nat.le_refl _ | refine BW.le_of ?_ | refine le_alloc ?_ | refine le_drew ?_ | refine le_drewN ?_ | refine le_set ?_ | refine le_plus ?_ ))))) | refine Below.drew ?_ | refine below_drewN ?_ _)))⟩

theorem raw_walk {a b c : Int} {w : World} : Gives Try.prog 6 #[.int .i64 a, .int .i64 b, .int .i64 c] w (.bool true) := by
  refine Gives.of ?_
  have hb : ∀ a w, Gives Try.prog 21 #[.int .u64 (IntKind.u64.wrap a), .int .i64 0, .int .i64 16] w (.int .u64 (cutN a : Int)) := fun a w => by
    have e : IntKind.u64.wrap a = (((a % 18446744073709551616).toNat : Nat) : Int) := by rw [IntKind.wrap_u64]; omega
    have h := rbits_any (n := (a % 18446744073709551616).toNat) (a := 0) (b := 16) (w := w) (by omega)
    have e1 : wn 0 64 = 0 := by decide
    have e2 : wn 16 64 = 16 := by decide
    rw [e1, e2, ← e] at h
    have e3 : lowN (a % 18446744073709551616).toNat 0 16 = cutN a := by unfold lowN cutN; omega
    rwa [e3] at h
  have h1 := cutN_lt a
  have h2 := cutN_lt b
  have h3 := cutN_lt c
  have hf : ∀ w, Gives Try.prog 18 #[.int .u64 (65535 - (cutN a : Int) + 65535 - (cutN b : Int) + (cutN c : Int))] w (.int .i64 (foldN (65535 - cutN a + (65535 - cutN b) + cutN c) : Int)) := fun w => by
    have h := rFold_any (n := 65535 - cutN a + (65535 - cutN b) + cutN c) (w := w) (by omega)
    rw [show ((65535 - cutN a + (65535 - cutN b) + cutN c : Nat) : Int) = 65535 - (cutN a : Int) + 65535 - (cutN b : Int) + (cutN c : Int) by omega] at h
    exact h
  have hl := foldN_le (65535 - cutN a + (65535 - cutN b) + cutN c)
  have hu : ((updN a b c : Nat) : Int) = 65535 - (foldN (65535 - cutN a + (65535 - cutN b) + cutN c) : Int) := by unfold updN; omega
  have hupd : ∀ w, Gives Try.prog 19 #[.int .i64 a, .int .i64 b, .int .i64 c] w (.int .i64 (65535 - (foldN (65535 - cutN a + (65535 - cutN b) + cutN c) : Int))) := fun w => by rw [← hu]; exact Update_any
  clear hu
  go_enter Try.func6, Try.ntmps6
  go_wp2_with ((with_reducible (first | apply Gives.call_bw (Nat.le_refl _) | apply Gives.call)); (focus (first | (with_reducible exact hb _ _) | (with_reducible exact hf _) | (with_reducible exact hupd _) | (with_reducible exact lives02_any))); intro x)
  go_ret
  exact ⟨rfl, by (first | (simp; done) | (repeat (first | assumption | exact Below.refl _ _ | (refine below_bw _ ?_ ?_; rotate_left; focus ((first | omega | (repeat (first | assumption | exact Nat.le_refl _ | refine BW.le_of ?_ | refine le_alloc ?_ | refine le_drew ?_ | refine le_drewN ?_ | refine le_set ?_ | refine le_plus ?_ ))))) | (refine Below.alloc ?_ ?_ _; rotate_left; focus ((first | omega | (repeat (first | assumption | exact Nat.le_refl _ | refine BW.le_of ?_ | refine le_alloc ?_ | refine le_drew ?_ | refine le_drewN ?_ | refine le_set ?_ | refine le_plus ?_ ))))) | (refine Below.setCell ?_ ?_ _; rotate_left; focus ((first | omega | (repeat (first | assumption | exact Nat.le_refl _ | refine BW.le_of ?_ | refine le_alloc ?_ | refine le_drew ?_ | refine le_drewN ?_ | refine le_set ?_ | refine le_plus ?_ ))))) | refine Below.drew ?_ | refine below_drewN ?_ _)))⟩

set_option maxRecDepth 100000 in
theorem sumRaw_lifted (os : Os) (started : os.Started) (H : Type) (enc : TypeId × Value → H) :
    ReturnsInHanded {} Try.checked os 6 .any (Rows.sumRawSpec.pre6 enc Try.prog Try.f6 Rows.sumRawRow.domain false) (Rows.sumRawSpec.post enc Try.prog Try.f6 false true false false) := by
  refine lifted_of_walk (C := Try.checked) (tb := 4) own started (by kernel_rfl) Try.func6
    (ChangeSpec.witness6 (enc := enc) (C := Try.checked) false ⟨#[], #[.int .i64 0, .int .i64 0, .int .i64 0], []⟩ 8 (by kernel_rfl) (by kernel_rfl) (by kernel_rfl) (by kernel_rfl))
    (by kernel_rfl) Try.underlying4 (by kernel_rfl) (by kernel_rfl) rfl ?_ ?_
  · intro ds hl
    match ds, hl with
    | [d0, d1, d2], _ => exact ⟨rfl, rfl, rfl⟩
  · intro W base args ds ps hval hA hfz
    have hA' : DataW.TrodAll enc Try.prog W 0 (fun _ => true) true Try.f6.params.toList args.toList ds ps := hA
    rw [Try.params6] at hA'
    obtain ⟨v0, vs0, d0, ds0, p0, q0, hargs0, rfl, rfl, h0, r0⟩ := trodAll_cons hA'
    obtain ⟨v1, vs1, d1, ds1, p1, q1, hargs1, rfl, rfl, h1, r1⟩ := trodAll_cons r0
    obtain ⟨v2, vs2, d2, ds2, p2, q2, hargs2, rfl, rfl, h2, r2⟩ := trodAll_cons r1
    obtain ⟨hvs, rfl, rfl⟩ := trodAll_nil r2
    obtain rfl : args = #[v0, v1, v2] := by cases args; simp_all
    have g0 := hval 0 3 v0 rfl rfl
    have g1 := hval 1 3 v1 rfl rfl
    have g2 := hval 2 3 v2 rfl rfl
    obtain ⟨a, rfl, _⟩ := open_i64 Try.underlying3 g0
    obtain ⟨b, rfl, _⟩ := open_i64 Try.underlying3 g1
    obtain ⟨c, rfl, _⟩ := open_i64 Try.underlying3 g2
    exact raw_walk
theorem sumRaw_proved : Rows.SumRawSaid :=
  OpenClaim.holds_of_wide 6 Try.f6 rfl rfl rfl rfl rfl rfl rfl ⟨rfl, rfl, rfl, rfl, rfl⟩ rfl rfl rfl rfl rfl (by kernel_rfl) Try.func6 (by kernel_rfl)
    (of_decide_eq_true (by kernel_rfl)) (by unfold Func.isWrapper; first | (rw [if_pos (by decide +kernel)]; kernel_rfl) | (rw [if_neg (by decide +kernel)]; exact ⟨rfl, rfl⟩))
    (fun os started H enc _ => sumRaw_lifted os started H enc)


theorem fold_check (S : Nat) : foldN (S + (65535 - foldN S)) = 65535 := by
  unfold foldN
  by_cases h : S = 0
  · subst h; decide
  · rw [if_neg h, if_neg (by omega)]
    omega
/-- a check among the words, wherever it stands -/
theorem good_at {d : ByteArray} {k N q : Nat} (hd : d.size = 2 * N) (hk : k ≤ N) (hq : q = 65535 - foldN (wsum d.data.toList)) : foldN (wsum (flat [d.extract 0 (2 * k), str (putL q 2), d.extract (2 * k) (2 * N)])) = 65535 := by
  have h1 := foldN_le (wsum d.data.toList)
  have e : flat [d.extract 0 (2 * k), str (putL q 2), d.extract (2 * k) (2 * N)] = d.data.toList.take (2 * k) ++ (putL q 2 ++ d.data.toList.drop (2 * k)) := by
    simp only [flat, List.flatMap_cons, List.flatMap_nil, List.append_nil, str_toList, toList_extract, List.drop_zero, Nat.sub_zero]
    rw [List.take_of_length_le (i := 2 * N - 2 * k) (by rw [List.length_drop, size_toList]; omega)]
  have h2 : wsum d.data.toList = wsum (d.data.toList.take (2 * k)) + wsum (d.data.toList.drop (2 * k)) := by
    rw [← wsum_append (by rw [List.length_take, size_toList]; omega), List.take_append_drop]
  rw [e, wsum_append (by rw [List.length_take, size_toList]; omega), wsum_append (by rw [putL_length]), wsum_two _ (putL_length _ _), numL_putL, show q % 256 ^ 2 = q by omega]
  have := fold_check (wsum d.data.toList)
  rw [show wsum (d.data.toList.take (2 * k)) + (q + wsum (d.data.toList.drop (2 * k))) = wsum d.data.toList + (65535 - foldN (wsum d.data.toList)) by omega]
  exact this
set_option maxRecDepth 20000 in
theorem checks_walk {s : ByteArray} {n : Nat} {w : World} (hn : n < 256) : Gives Try.prog 3 #[.string s, .int .u8 n] w (.bool true) := by
  refine Gives.of ?_
  have hcut : ∀ w, Gives Try.prog 8 #[.string s, .int .i64 60] w (.string (s.extract 0 60)) := fun w => cut_any
  have hz : (s.extract 0 60).size ≤ 60 := by rw [← size_toList, toList_extract, List.length_take]; omega
  generalize s.extract 0 60 = c at *
  obtain ⟨d, hd⟩ : ∃ d, c.extract 0 (c.size / 2 * 2) = d := ⟨_, rfl⟩
  obtain ⟨N, hN⟩ : ∃ N, d.size = 2 * N := ⟨c.size / 2, by rw [← hd, ← size_toList, toList_extract, List.length_take, List.drop_zero, size_toList]; omega⟩
  have hN2 : N ≤ 30 := by
    have : d.size ≤ c.size := by rw [← hd, ← size_toList, toList_extract, List.length_take, List.drop_zero, size_toList]; omega
    omega
  obtain ⟨k, hk, hw⟩ : ∃ k : Nat, k ≤ N ∧ wrap64 ((n : Int) % ((N : Int) + 1) * 2) = 2 * (k : Int) := by
    refine ⟨n % (N + 1), by have := Nat.mod_lt n (show 0 < N + 1 by omega); omega, ?_⟩
    have e : ((n : Int) % ((N : Int) + 1)) = ((n % (N + 1) : Nat) : Int) := by norm_cast
    have := Nat.mod_lt n (show 0 < N + 1 by omega)
    rw [e, wrap64_lit (by omega) (by omega)]
    omega
  have hfl := foldN_le (wsum d.data.toList)
  obtain ⟨q, hq⟩ : ∃ q, q = 65535 - foldN (wsum d.data.toList) := ⟨_, rfl⟩
  have hq2 : (q : Int) ≤ 65535 := by omega
  have hcheck : ∀ w g c, Row w g 9 #[.string d] → Gives Try.prog 9 #[.slice (some ⟨g, 0, none⟩) 1 c] w (.int .i64 (q : Int)) := fun w g c h => by
    have h := Check_row (m := 1) (c := c) (ss := [d]) rfl (small1 (by omega)) h
    rwa [show flat [d] = d.data.toList by simp [flat], ← hq] at h
  have hput : ∀ w, Gives Try.prog 11 #[.int .u64 (q : Int), .int .i64 2] w (.string (str (putL q 2))) := fun w => by
    have h := rput_any (n := q) (wide := 2) (w := w) (by omega)
    rwa [show wn 2 8 = 2 by decide] at h
  have hgood : ∀ w g c, Row w g 9 #[.string (d.extract 0 (2 * k)), .string (str (putL q 2)), .string (d.extract (2 * k) (2 * N))] → Gives Try.prog 10 #[.slice (some ⟨g, 0, none⟩) 3 c] w (.bool true) := fun w g c h => by
    have hl : ∀ i j, (d.extract i j).size ≤ 9223372036854775807 := fun i j => by rw [← size_toList, toList_extract, List.length_take, List.length_drop, size_toList]; omega
    have h := Good_row (m := 3) (c := c) (ss := [d.extract 0 (2 * k), str (putL q 2), d.extract (2 * k) (2 * N)]) rfl (small3 (hl _ _) (by rw [str_size, putL_length]; omega) (hl _ _)) h
    rwa [good_at hN hk hq] at h
  clear hq hfl
  go_enter Try.func3, Try.ntmps3
  go_wp2_with ((with_reducible (first | apply Gives.call_bw (Nat.le_refl _) | apply Gives.call)); (focus (first | (with_reducible exact hcut _) | (with_reducible exact hcheck _ _ _ (Row.new _ _ _)))); intro x)
  ((with_reducible refine wp_region_mix (by kernel_rfl) ?_); (first | (refine mix_pure (fuel := 22) 0 rfl (by kernel_rfl) (by kernel_rfl) (fun _ _ _ _ h => h) ?_; go_big_quiet_step (fail); refine mix_nil ?_) | (refine mix_forced (fuel := 22) 0 ?_ rfl (by kernel_rfl) ?_; (focus (simp only [valueKind]; done)); go_wp2_with ((with_reducible (first | apply Gives.call_bw (Nat.le_refl _) | apply Gives.call)); (focus (first | (with_reducible exact hput _) | (with_reducible exact lives02_any) | (with_reducible exact hgood _ _ _ (Row.new _ _ _)))); intro x); refine mixQ_normal ?_)); (first | (refine mix_pure (fuel := 21) 1 rfl (by kernel_rfl) (by kernel_rfl) (fun _ _ _ _ h => h) ?_; go_big_quiet_step (fail); refine mix_nil ?_) | (refine mix_forced (fuel := 21) 1 ?_ rfl (by kernel_rfl) ?_; (focus (simp only [valueKind]; done)); go_wp2_with ((with_reducible (first | apply Gives.call_bw (Nat.le_refl _) | apply Gives.call)); (focus (first | (with_reducible exact hput _) | (with_reducible exact lives02_any) | (with_reducible exact hgood _ _ _ (Row.new _ _ _)))); intro x); refine mixQ_normal ?_)); (first | (refine mix_pure (fuel := 20) 2 rfl (by kernel_rfl) (by kernel_rfl) (fun _ _ _ _ h => h) ?_; go_big_quiet_step (fail); refine mix_nil ?_) | (refine mix_forced (fuel := 20) 2 ?_ rfl (by kernel_rfl) ?_; (focus (simp only [valueKind]; done)); go_wp2_with ((with_reducible (first | apply Gives.call_bw (Nat.le_refl _) | apply Gives.call)); (focus (first | (with_reducible exact hput _) | (with_reducible exact lives02_any) | (with_reducible exact hgood _ _ _ (Row.new _ _ _)))); intro x); refine mixQ_normal ?_)); (first | (refine mix_pure (fuel := 19) 3 rfl (by kernel_rfl) (by kernel_rfl) (fun _ _ _ _ h => h) ?_; go_big_quiet_step (fail); refine mix_nil ?_) | (refine mix_forced (fuel := 19) 3 ?_ rfl (by kernel_rfl) ?_; (focus (simp only [valueKind]; done)); go_wp2_with ((with_reducible (first | apply Gives.call_bw (Nat.le_refl _) | apply Gives.call)); (focus (first | (with_reducible exact hput _) | (with_reducible exact lives02_any) | (with_reducible exact hgood _ _ _ (Row.new _ _ _)))); intro x); refine mixQ_normal ?_)); (first | (refine mix_pure (fuel := 18) 4 rfl (by kernel_rfl) (by kernel_rfl) (fun _ _ _ _ h => h) ?_; go_big_quiet_step (fail); refine mix_nil ?_) | (refine mix_forced (fuel := 18) 4 ?_ rfl (by kernel_rfl) ?_; (focus (simp only [valueKind]; done)); go_wp2_with ((with_reducible (first | apply Gives.call_bw (Nat.le_refl _) | apply Gives.call)); (focus (first | (with_reducible exact hput _) | (with_reducible exact lives02_any) | (with_reducible exact hgood _ _ _ (Row.new _ _ _)))); intro x); refine mixQ_normal ?_)); (first | (refine mix_pure (fuel := 17) 5 rfl (by kernel_rfl) (by kernel_rfl) (fun _ _ _ _ h => h) ?_; go_big_quiet_step (fail); refine mix_nil ?_) | (refine mix_forced (fuel := 17) 5 ?_ rfl (by kernel_rfl) ?_; (focus (simp only [valueKind]; done)); go_wp2_with ((with_reducible (first | apply Gives.call_bw (Nat.le_refl _) | apply Gives.call)); (focus (first | (with_reducible exact hput _) | (with_reducible exact lives02_any) | (with_reducible exact hgood _ _ _ (Row.new _ _ _)))); intro x); refine mixQ_normal ?_)); (first | (refine mix_pure (fuel := 16) 6 rfl (by kernel_rfl) (by kernel_rfl) (fun _ _ _ _ h => h) ?_; go_big_quiet_step (fail); refine mix_nil ?_) | (refine mix_forced (fuel := 16) 6 ?_ rfl (by kernel_rfl) ?_; (focus (simp only [valueKind]; done)); go_wp2_with ((with_reducible (first | apply Gives.call_bw (Nat.le_refl _) | apply Gives.call)); (focus (first | (with_reducible exact hput _) | (with_reducible exact lives02_any) | (with_reducible exact hgood _ _ _ (Row.new _ _ _)))); intro x); refine mixQ_normal ?_)); (first | (refine mix_pure (fuel := 15) 7 rfl (by kernel_rfl) (by kernel_rfl) (fun _ _ _ _ h => h) ?_; go_big_quiet_step (fail); refine mix_nil ?_) | (refine mix_forced (fuel := 15) 7 ?_ rfl (by kernel_rfl) ?_; (focus (simp only [valueKind]; done)); go_wp2_with ((with_reducible (first | apply Gives.call_bw (Nat.le_refl _) | apply Gives.call)); (focus (first | (with_reducible exact hput _) | (with_reducible exact lives02_any) | (with_reducible exact hgood _ _ _ (Row.new _ _ _)))); intro x); refine mixQ_normal ?_)); (first | (refine mix_pure (fuel := 14) 8 rfl (by kernel_rfl) (by kernel_rfl) (fun _ _ _ _ h => h) ?_; go_big_quiet_step (fail); refine mix_nil ?_) | (refine mix_forced (fuel := 14) 8 ?_ rfl (by kernel_rfl) ?_; (focus (simp only [valueKind]; done)); go_wp2_with ((with_reducible (first | apply Gives.call_bw (Nat.le_refl _) | apply Gives.call)); (focus (first | (with_reducible exact hput _) | (with_reducible exact lives02_any) | (with_reducible exact hgood _ _ _ (Row.new _ _ _)))); intro x); refine mixQ_normal ?_)); (first | (refine mix_pure (fuel := 13) 9 rfl (by kernel_rfl) (by kernel_rfl) (fun _ _ _ _ h => h) ?_; go_big_quiet_step (fail); refine mix_nil ?_) | (refine mix_forced (fuel := 13) 9 ?_ rfl (by kernel_rfl) ?_; (focus (simp only [valueKind]; done)); go_wp2_with ((with_reducible (first | apply Gives.call_bw (Nat.le_refl _) | apply Gives.call)); (focus (first | (with_reducible exact hput _) | (with_reducible exact lives02_any) | (with_reducible exact hgood _ _ _ (Row.new _ _ _)))); intro x); refine mixQ_normal ?_)); (first | (refine mix_pure (fuel := 12) 10 rfl (by kernel_rfl) (by kernel_rfl) (fun _ _ _ _ h => h) ?_; go_big_quiet_step (fail); refine mix_nil ?_) | (refine mix_forced (fuel := 12) 10 ?_ rfl (by kernel_rfl) ?_; (focus (simp only [valueKind]; done)); go_wp2_with ((with_reducible (first | apply Gives.call_bw (Nat.le_refl _) | apply Gives.call)); (focus (first | (with_reducible exact hput _) | (with_reducible exact lives02_any) | (with_reducible exact hgood _ _ _ (Row.new _ _ _)))); intro x); refine mixQ_normal ?_)); (first | (refine mix_pure (fuel := 11) 11 rfl (by kernel_rfl) (by kernel_rfl) (fun _ _ _ _ h => h) ?_; go_big_quiet_step (fail); refine mix_nil ?_) | (refine mix_forced (fuel := 11) 11 ?_ rfl (by kernel_rfl) ?_; (focus (simp only [valueKind]; done)); go_wp2_with ((with_reducible (first | apply Gives.call_bw (Nat.le_refl _) | apply Gives.call)); (focus (first | (with_reducible exact hput _) | (with_reducible exact lives02_any) | (with_reducible exact hgood _ _ _ (Row.new _ _ _)))); intro x); refine mixQ_normal ?_)); (first | (refine mix_pure (fuel := 10) 13 rfl (by kernel_rfl) (by kernel_rfl) (fun _ _ _ _ h => h) ?_; go_big_quiet_step (fail); refine mix_nil ?_) | (refine mix_forced (fuel := 10) 13 ?_ rfl (by kernel_rfl) ?_; (focus (simp only [valueKind]; done)); go_wp2_with ((with_reducible (first | apply Gives.call_bw (Nat.le_refl _) | apply Gives.call)); (focus (first | (with_reducible exact hput _) | (with_reducible exact lives02_any) | (with_reducible exact hgood _ _ _ (Row.new _ _ _)))); intro x); refine mixQ_normal ?_)); (first | (refine mix_pure (fuel := 9) 14 rfl (by kernel_rfl) (by kernel_rfl) (fun _ _ _ _ h => h) ?_; go_big_quiet_step (fail); refine mix_nil ?_) | (refine mix_forced (fuel := 9) 14 ?_ rfl (by kernel_rfl) ?_; (focus (simp only [valueKind]; done)); go_wp2_with ((with_reducible (first | apply Gives.call_bw (Nat.le_refl _) | apply Gives.call)); (focus (first | (with_reducible exact hput _) | (with_reducible exact lives02_any) | (with_reducible exact hgood _ _ _ (Row.new _ _ _)))); intro x); refine mixQ_normal ?_)); (first | (refine mix_pure (fuel := 8) 15 rfl (by kernel_rfl) (by kernel_rfl) (fun _ _ _ _ h => h) ?_; go_big_quiet_step (fail); refine mix_nil ?_) | (refine mix_forced (fuel := 8) 15 ?_ rfl (by kernel_rfl) ?_; (focus (simp only [valueKind]; done)); go_wp2_with ((with_reducible (first | apply Gives.call_bw (Nat.le_refl _) | apply Gives.call)); (focus (first | (with_reducible exact hput _) | (with_reducible exact lives02_any) | (with_reducible exact hgood _ _ _ (Row.new _ _ _)))); intro x); refine mixQ_normal ?_)); (first | (refine mix_pure (fuel := 7) 12 rfl (by kernel_rfl) (by kernel_rfl) (fun _ _ _ _ h => h) ?_; go_big_quiet_step (fail); refine mix_nil ?_) | (refine mix_forced (fuel := 7) 12 ?_ rfl (by kernel_rfl) ?_; (focus (simp only [valueKind]; done)); go_wp2_with ((with_reducible (first | apply Gives.call_bw (Nat.le_refl _) | apply Gives.call)); (focus (first | (with_reducible exact hput _) | (with_reducible exact lives02_any) | (with_reducible exact hgood _ _ _ (Row.new _ _ _)))); intro x); refine mixQ_normal ?_)); (first | (refine mix_pure (fuel := 6) 16 rfl (by kernel_rfl) (by kernel_rfl) (fun _ _ _ _ h => h) ?_; go_big_quiet_step (fail); refine mix_nil ?_) | (refine mix_forced (fuel := 6) 16 ?_ rfl (by kernel_rfl) ?_; (focus (simp only [valueKind]; done)); go_wp2_with ((with_reducible (first | apply Gives.call_bw (Nat.le_refl _) | apply Gives.call)); (focus (first | (with_reducible exact hput _) | (with_reducible exact lives02_any) | (with_reducible exact hgood _ _ _ (Row.new _ _ _)))); intro x); refine mixQ_normal ?_)); (first | (refine mix_pure (fuel := 5) 17 rfl (by kernel_rfl) (by kernel_rfl) (fun _ _ _ _ h => h) ?_; go_big_quiet_step (fail); refine mix_nil ?_) | (refine mix_forced (fuel := 5) 17 ?_ rfl (by kernel_rfl) ?_; (focus (simp only [valueKind]; done)); go_wp2_with ((with_reducible (first | apply Gives.call_bw (Nat.le_refl _) | apply Gives.call)); (focus (first | (with_reducible exact hput _) | (with_reducible exact lives02_any) | (with_reducible exact hgood _ _ _ (Row.new _ _ _)))); intro x); refine mixQ_normal ?_)); (first | (refine mix_pure (fuel := 4) 18 rfl (by kernel_rfl) (by kernel_rfl) (fun _ _ _ _ h => h) ?_; go_big_quiet_step (fail); refine mix_nil ?_) | (refine mix_forced (fuel := 4) 18 ?_ rfl (by kernel_rfl) ?_; (focus (simp only [valueKind]; done)); go_wp2_with ((with_reducible (first | apply Gives.call_bw (Nat.le_refl _) | apply Gives.call)); (focus (first | (with_reducible exact hput _) | (with_reducible exact lives02_any) | (with_reducible exact hgood _ _ _ (Row.new _ _ _)))); intro x); refine mixQ_normal ?_)); (first | (refine mix_pure (fuel := 3) 19 rfl (by kernel_rfl) (by kernel_rfl) (fun _ _ _ _ h => h) ?_; go_big_quiet_step (fail); refine mix_nil ?_) | (refine mix_forced (fuel := 3) 19 ?_ rfl (by kernel_rfl) ?_; (focus (simp only [valueKind]; done)); go_wp2_with ((with_reducible (first | apply Gives.call_bw (Nat.le_refl _) | apply Gives.call)); (focus (first | (with_reducible exact hput _) | (with_reducible exact lives02_any) | (with_reducible exact hgood _ _ _ (Row.new _ _ _)))); intro x); refine mixQ_normal ?_)); (first | (refine mix_pure (fuel := 2) 20 rfl (by kernel_rfl) (by kernel_rfl) (fun _ _ _ _ h => h) ?_; go_big_quiet_step (fail); refine mix_nil ?_) | (refine mix_forced (fuel := 2) 20 ?_ rfl (by kernel_rfl) ?_; (focus (simp only [valueKind]; done)); go_wp2_with ((with_reducible (first | apply Gives.call_bw (Nat.le_refl _) | apply Gives.call)); (focus (first | (with_reducible exact hput _) | (with_reducible exact lives02_any) | (with_reducible exact hgood _ _ _ (Row.new _ _ _)))); intro x); refine mixQ_normal ?_)); (first | (refine mix_pure (fuel := 1) 21 rfl (by kernel_rfl) (by kernel_rfl) (fun _ _ _ _ h => h) ?_; go_big_quiet_step (fail); refine mix_nil ?_) | (refine mix_forced (fuel := 1) 21 ?_ rfl (by kernel_rfl) ?_; (focus (simp only [valueKind]; done)); go_wp2_with ((with_reducible (first | apply Gives.call_bw (Nat.le_refl _) | apply Gives.call)); (focus (first | (with_reducible exact hput _) | (with_reducible exact lives02_any) | (with_reducible exact hgood _ _ _ (Row.new _ _ _)))); intro x); refine mixQ_normal ?_)); (first | (refine mix_pure (fuel := 0) 22 rfl (by kernel_rfl) (by kernel_rfl) (fun _ _ _ _ h => h) ?_; go_big_quiet_step (fail); refine mix_nil ?_) | (refine mix_forced (fuel := 0) 22 ?_ rfl (by kernel_rfl) ?_; (focus (simp only [valueKind]; done)); go_wp2_with ((with_reducible (first | apply Gives.call_bw (Nat.le_refl _) | apply Gives.call)); (focus (first | (with_reducible exact hput _) | (with_reducible exact lives02_any) | (with_reducible exact hgood _ _ _ (Row.new _ _ _)))); intro x); refine mixQ_normal ?_)); refine mix_end (by kernel_rfl) ?_)
  all_goals (go_wp2; go_ret; exact ⟨rfl, by (first | (simp; done) | (repeat (first | assumption | exact Below.refl _ _ | (refine below_bw _ ?_ ?_; rotate_left; focus ((first | omega | (repeat (first | assumption | exact Nat.le_refl _ | refine BW.le_of ?_ | refine le_alloc ?_ | refine le_drew ?_ | refine le_drewN ?_ | refine le_set ?_ | refine le_plus ?_ ))))) | (refine Below.alloc ?_ ?_ _; rotate_left; focus ((first | omega | (repeat (first | assumption | exact Nat.le_refl _ | refine BW.le_of ?_ | refine le_alloc ?_ | refine le_drew ?_ | refine le_drewN ?_ | refine le_set ?_ | refine le_plus ?_ ))))) | (refine Below.setCell ?_ ?_ _; rotate_left; focus ((first | omega | (repeat (first | assumption | exact Nat.le_refl _ | refine BW.le_of ?_ | refine le_alloc ?_ | refine le_drew ?_ | refine le_drewN ?_ | refine le_set ?_ | refine le_plus ?_ ))))) | refine Below.drew ?_ | refine below_drewN ?_ _)))⟩)
set_option maxRecDepth 100000 in
theorem sumChecks_lifted (os : Os) (started : os.Started) (H : Type) (enc : TypeId × Value → H) :
    ReturnsInHanded {} Try.checked os 3 .any (Rows.sumChecksSpec.pre6 enc Try.prog Try.f3 Rows.sumChecksRow.domain false) (Rows.sumChecksSpec.post enc Try.prog Try.f3 false true false false) := by
  refine lifted_of_walk (C := Try.checked) (tb := 4) own started (by kernel_rfl) Try.func3
    (ChangeSpec.witness6 (enc := enc) (C := Try.checked) false ⟨#[], #[.string .empty, .int .u8 0], []⟩ 8 (by kernel_rfl) (by kernel_rfl) (by kernel_rfl) (by kernel_rfl))
    (by kernel_rfl) Try.underlying4 (by kernel_rfl) (by kernel_rfl) rfl ?_ ?_
  · intro ds hl
    match ds, hl with
    | [d0, d1], _ => exact ⟨rfl, rfl, rfl⟩
  · intro W base args ds ps hval hA hfz
    have hA' : DataW.TrodAll enc Try.prog W 0 (fun _ => true) true Try.f3.params.toList args.toList ds ps := hA
    rw [Try.params3] at hA'
    obtain ⟨v0, vs0, d0, ds0, p0, q0, hargs0, rfl, rfl, h0, r0⟩ := trodAll_cons hA'
    obtain ⟨v1, vs1, d1, ds1, p1, q1, hargs1, rfl, rfl, h1, r1⟩ := trodAll_cons r0
    obtain ⟨hvs, rfl, rfl⟩ := trodAll_nil r1
    obtain rfl : args = #[v0, v1] := by cases args; simp_all
    have g0 := hval 0 9 v0 rfl rfl
    have g1 := hval 1 5 v1 rfl rfl
    obtain ⟨s, rfl, _⟩ := open_str Try.underlying9 g0
    obtain ⟨n, rfl⟩ := open_u8 Try.underlying5 g1
    exact checks_walk n.toNat_lt
theorem sumChecks_proved : Rows.SumChecksSaid :=
  OpenClaim.holds_of_wide 3 Try.f3 rfl rfl rfl rfl rfl rfl rfl ⟨rfl, rfl, rfl, rfl, rfl⟩ rfl rfl rfl rfl rfl (by kernel_rfl) Try.func3 (by kernel_rfl)
    (of_decide_eq_true (by kernel_rfl)) (by unfold Func.isWrapper; first | (rw [if_pos (by decide +kernel)]; kernel_rfl) | (rw [if_neg (by decide +kernel)]; exact ⟨rfl, rfl⟩))
    (fun os started H enc _ => sumChecks_lifted os started H enc)

theorem foldN_full {T : Nat} (h : T ≠ 0) : foldN (T + 65535) = foldN T := by
  unfold foldN
  rw [if_neg (by omega), if_neg h]
  omega
theorem updates_walk {s : ByteArray} {n m : Nat} {w : World} (hn : n < 256) (hm : m < 65536) : Gives Try.prog 5 #[.string s, .int .u8 n, .int .u16 m] w (.bool true) := by
  refine Gives.of ?_
  have hcut : ∀ w, Gives Try.prog 8 #[.string s, .int .i64 60] w (.string (s.extract 0 60)) := fun w => cut_any
  have hz : (s.extract 0 60).size ≤ 60 := by rw [← size_toList, toList_extract, List.length_take]; omega
  generalize s.extract 0 60 = c at *
  obtain ⟨d, hd⟩ : ∃ d, c.extract 0 (c.size / 2 * 2) = d := ⟨_, rfl⟩
  obtain ⟨N, hN⟩ : ∃ N, d.size = 2 * N := ⟨c.size / 2, by rw [← hd, ← size_toList, toList_extract, List.length_take, List.drop_zero, size_toList]; omega⟩
  have hN2 : N ≤ 30 := by
    have : d.size ≤ c.size := by rw [← hd, ← size_toList, toList_extract, List.length_take, List.drop_zero, size_toList]; omega
    omega
  by_cases hN0 : N = 0
  · have hd0 : d = ⟨#[]⟩ := by
      apply data_inj
      have : d.data.toList.length = 0 := by rw [size_toList]; omega
      exact List.eq_nil_of_length_eq_zero this
    subst hd0
    go_enter Try.func5, Try.ntmps5
    go_wp2_with ((with_reducible (first | apply Gives.call_bw (Nat.le_refl _) | apply Gives.call)); (focus (first | (with_reducible exact hcut _) | (with_reducible exact lives02_any))); intro x)
    go_ret
    exact ⟨rfl, by (first | (simp; done) | (repeat (first | assumption | exact Below.refl _ _ | (refine below_bw _ ?_ ?_; rotate_left; focus ((first | omega | (repeat (first | assumption | exact Nat.le_refl _ | refine BW.le_of ?_ | refine le_alloc ?_ | refine le_drew ?_ | refine le_drewN ?_ | refine le_set ?_ | refine le_plus ?_ ))))) | (refine Below.alloc ?_ ?_ _; rotate_left; focus ((first | omega | (repeat (first | assumption | exact Nat.le_refl _ | refine BW.le_of ?_ | refine le_alloc ?_ | refine le_drew ?_ | refine le_drewN ?_ | refine le_set ?_ | refine le_plus ?_ ))))) | (refine Below.setCell ?_ ?_ _; rotate_left; focus ((first | omega | (repeat (first | assumption | exact Nat.le_refl _ | refine BW.le_of ?_ | refine le_alloc ?_ | refine le_drew ?_ | refine le_drewN ?_ | refine le_set ?_ | refine le_plus ?_ ))))) | refine Below.drew ?_ | refine below_drewN ?_ _)))⟩
  have hne : d.toList.isEmpty = false := notEmpty (by omega)
  obtain ⟨k, hk, hw⟩ : ∃ k : Nat, k < N ∧ wrap64 ((n : Int) % (N : Int) * 2) = 2 * (k : Int) := by
    have h1 := Nat.mod_lt n (show 0 < N by omega)
    refine ⟨n % N, h1, ?_⟩
    have e : ((n : Int) % (N : Int)) = ((n % N : Nat) : Int) := by norm_cast
    rw [e, wrap64_lit (by omega) (by omega)]
    omega
  have hput : ∀ (m : Nat) w, m < 65536 → Gives Try.prog 11 #[.int .u64 (m : Int), .int .i64 2] w (.string (str (putL m 2))) := fun m w hm => by
    have h := rput_any (n := m) (wide := 2) (w := w) (by omega)
    rwa [show wn 2 8 = 2 by decide] at h
  have hp1 : ∀ w, Gives Try.prog 11 #[.int .u64 (m : Int), .int .i64 2] w (.string (str (putL m 2))) := fun w => hput m w hm
  obtain ⟨t, ht⟩ : ∃ t, d.extract 0 (2 * k) ++ str (putL m 2) ++ d.extract (2 * k + 2) (2 * N) = t := ⟨_, rfl⟩
  obtain ⟨o, ho⟩ : ∃ o, o = numL ((d.data.toList.drop (2 * k)).take 2) := ⟨_, rfl⟩
  have ho2 : o < 65536 := by
    have h := numL_lt ((d.data.toList.drop (2 * k)).take 2)
    rw [List.length_take, List.length_drop, size_toList, show min 2 (d.size - 2 * k) = 2 by omega] at h
    omega
  have eA : (d.data.toList.take (2 * k)).length = 2 * k := by rw [List.length_take, size_toList]; omega
  have hwd : wsum d.data.toList = wsum (d.data.toList.take (2 * k)) + o + wsum (d.data.toList.drop (2 * k + 2)) := by
    have e := List.take_append_drop (2 * k) d.data.toList
    have e2 := List.take_append_drop 2 (d.data.toList.drop (2 * k))
    rw [List.drop_drop] at e2
    conv => lhs; rw [← e, wsum_append (by rw [eA]; omega), ← e2, wsum_append (by rw [List.length_take, List.length_drop, size_toList]; omega), wsum_two ((d.data.toList.drop (2 * k)).take 2) (by rw [List.length_take, List.length_drop, size_toList]; omega), ← ho]
    omega
  have htl : t.data.toList = d.data.toList.take (2 * k) ++ (putL m 2 ++ d.data.toList.drop (2 * k + 2)) := by
    rw [← ht, toList_append, toList_append, str_toList, toList_extract, toList_extract, List.drop_zero, Nat.sub_zero, List.append_assoc]
    rw [List.take_of_length_le (i := 2 * N - (2 * k + 2)) (by rw [List.length_drop, size_toList]; omega)]
  have hwt : wsum t.data.toList = wsum (d.data.toList.take (2 * k)) + m + wsum (d.data.toList.drop (2 * k + 2)) := by
    rw [htl, wsum_append (by rw [eA]; omega), wsum_append (by rw [putL_length]), wsum_two _ (putL_length _ _), numL_putL, show m % 256 ^ 2 = m by omega]
    omega
  have htz : t.size = 2 * N := by
    rw [← size_toList, htl, List.length_append, List.length_append, eA, putL_length, List.length_drop, size_toList]
    omega
  have hr : ∀ w, Gives Try.prog 13 #[.string d] w (.int .i64 (foldN (wsum d.data.toList) : Int)) := fun w => rSum_any (by omega)
  have hrt : ∀ w, Gives Try.prog 13 #[.string t] w (.int .i64 (foldN (wsum t.data.toList) : Int)) := fun w => rSum_any (by omega)
  have hnum : ∀ w, Gives Try.prog 20 #[.string (d.extract (2 * k) (2 * k + 2))] w (.int .u64 (o : Int)) := fun w => by
    have h := rnum_any (s := d.extract (2 * k) (2 * k + 2)) (w := w) (by rw [← size_toList, toList_extract, List.length_take]; omega)
    rw [toList_extract, Nat.add_sub_cancel_left, ← ho] at h
    exact h
  have hfl := foldN_le (wsum d.data.toList)
  obtain ⟨u, hu⟩ : ∃ u, u = 65535 - foldN (wsum t.data.toList + 65535) := ⟨_, rfl⟩
  have hu2 : u < 65536 := by omega
  have hupd : ∀ w, Gives Try.prog 19 #[.int .i64 (65535 - (foldN (wsum d.data.toList) : Int)), .int .i64 (o : Int), .int .i64 (m : Int)] w (.int .i64 (u : Int)) := fun w => by
    have h := Update_any (a := 65535 - (foldN (wsum d.data.toList) : Int)) (b := (o : Int)) (c := (m : Int)) (w := w)
    have e : updN (65535 - (foldN (wsum d.data.toList) : Int)) (o : Int) (m : Int) = u := by
      unfold updN
      rw [show (65535 - (foldN (wsum d.data.toList) : Int)) = ((65535 - foldN (wsum d.data.toList) : Nat) : Int) by omega, cutN_nat (by omega), cutN_nat ho2, cutN_nat hm, hu]
      have e1 : 65535 - (65535 - foldN (wsum d.data.toList)) + (65535 - o) + m = foldN (wsum d.data.toList) + (65535 - o + m) := by omega
      rw [e1, foldN_add, hwd, hwt]
      congr 2
      omega
    rwa [e] at h
  have hz1 : (d.extract 0 (2 * k)).size ≤ 60 := by rw [← size_toList, toList_extract, List.length_take]; omega
  have hz2 : (putL m 2).length = 2 := putL_length _ _
  have hz3 : (d.extract (2 * k + 2) (2 * N)).size ≤ 60 := by rw [← size_toList, toList_extract, List.length_take]; omega
  by_cases hT : wsum t.data.toList = 0
  · have hu0 : u = 0 := by rw [hu, hT]; decide
    have hf0 : foldN (wsum t.data.toList) = 0 := by rw [hT]; decide
    rw [hf0] at hrt
    subst hu0
    clear hu hwd hwt htl ho eA hf0 hT
    go_enter Try.func5, Try.ntmps5
    go_wp2_with ((with_reducible (first | apply Gives.call_bw (Nat.le_refl _) | apply Gives.call)); (focus (first | (with_reducible exact hcut _) | (with_reducible exact lives02_any))); intro x)
    ((with_reducible first | refine wp_region_bx (Nat.le_refl _) (by kernel_rfl) (by kernel_rfl) ?_ | refine wp_region_bw (by kernel_rfl) (by kernel_rfl) ?_); (repeat (go_big_quiet_step (((with_reducible apply Gives.bw (Nat.le_refl _)); first | (with_reducible exact hp1 _))))); refine wpQuiet_nil ?_; rintro _ ⟨x, rfl⟩)
    go_wp2_with ((with_reducible (first | apply Gives.call_bw (Nat.le_refl _) | apply Gives.call)); (focus (first | (with_reducible exact fail))); intro x)
    ((with_reducible first | refine wp_region_bx (Nat.le_refl _) (by kernel_rfl) (by kernel_rfl) ?_ | refine wp_region_bw (by kernel_rfl) (by kernel_rfl) ?_); (repeat (go_big_quiet_step (((with_reducible apply Gives.bw (Nat.le_refl _)); first | (with_reducible exact hr _) | (with_reducible exact hnum _) | (with_reducible exact hupd _))))); refine wpQuiet_nil ?_; rintro _ ⟨x, rfl⟩)
    go_wp2_with ((with_reducible (first | apply Gives.call_bw (Nat.le_refl _) | apply Gives.call)); (focus (first | (with_reducible exact hrt _) | (with_reducible exact lives02_any))); intro x)
    go_ret
    exact ⟨rfl, by (first | (simp; done) | (repeat (first | assumption | exact Below.refl _ _ | (refine below_bw _ ?_ ?_; rotate_left; focus ((first | omega | (repeat (first | assumption | exact Nat.le_refl _ | refine BW.le_of ?_ | refine le_alloc ?_ | refine le_drew ?_ | refine le_drewN ?_ | refine le_set ?_ | refine le_plus ?_ ))))) | (refine Below.alloc ?_ ?_ _; rotate_left; focus ((first | omega | (repeat (first | assumption | exact Nat.le_refl _ | refine BW.le_of ?_ | refine le_alloc ?_ | refine le_drew ?_ | refine le_drewN ?_ | refine le_set ?_ | refine le_plus ?_ ))))) | (refine Below.setCell ?_ ?_ _; rotate_left; focus ((first | omega | (repeat (first | assumption | exact Nat.le_refl _ | refine BW.le_of ?_ | refine le_alloc ?_ | refine le_drew ?_ | refine le_drewN ?_ | refine le_set ?_ | refine le_plus ?_ ))))) | refine Below.drew ?_ | refine below_drewN ?_ _)))⟩
  · have hu1 : u = 65535 - foldN (wsum t.data.toList) := by rw [hu, foldN_full hT]
    have hne0 : ((foldN (wsum t.data.toList) : Int) == 0) = false := by
      have : foldN (wsum t.data.toList) ≠ 0 := fun e => hT (foldN_zero.1 e)
      simp; omega
    have hfl2 := foldN_le (wsum t.data.toList)
    have hp2 : ∀ w, Gives Try.prog 11 #[.int .u64 (u : Int), .int .i64 2] w (.string (str (putL u 2))) := fun w => hput u w hu2
    have hgood : ∀ w g c, Row w g 9 #[.string t, .string (str (putL u 2))] → Gives Try.prog 10 #[.slice (some ⟨g, 0, none⟩) 2 c] w (.bool true) := fun w g c h => by
      have h := Good_row (m := 2) (c := c) (ss := [t, str (putL u 2)]) rfl (small2 (by omega) (by rw [str_size, putL_length]; omega)) h
      have e : flat [t, str (putL u 2)] = t.data.toList ++ putL u 2 := by simp [flat]
      rw [e, wsum_append (by rw [size_toList, htz]; omega), wsum_two _ (putL_length _ _), numL_putL, show u % 256 ^ 2 = u by omega, hu1, fold_check] at h
      exact h
    have hu3 : (u : Int) = 65535 - (foldN (wsum t.data.toList) : Int) := by omega
    have hu4 : ((u : Int) == 65535 - (foldN (wsum t.data.toList) : Int)) = true := by rw [hu3]; simp
    clear hu hwd hwt htl ho eA hT hu1 hu3
    go_enter Try.func5, Try.ntmps5
    go_wp2_with ((with_reducible (first | apply Gives.call_bw (Nat.le_refl _) | apply Gives.call)); (focus (first | (with_reducible exact hcut _) | (with_reducible exact lives02_any))); intro x)
    ((with_reducible first | refine wp_region_bx (Nat.le_refl _) (by kernel_rfl) (by kernel_rfl) ?_ | refine wp_region_bw (by kernel_rfl) (by kernel_rfl) ?_); (repeat (go_big_quiet_step (((with_reducible apply Gives.bw (Nat.le_refl _)); first | (with_reducible exact hp1 _))))); refine wpQuiet_nil ?_; rintro _ ⟨x, rfl⟩)
    go_wp2_with ((with_reducible (first | apply Gives.call_bw (Nat.le_refl _) | apply Gives.call)); (focus (first | (with_reducible exact fail))); intro x)
    ((with_reducible first | refine wp_region_bx (Nat.le_refl _) (by kernel_rfl) (by kernel_rfl) ?_ | refine wp_region_bw (by kernel_rfl) (by kernel_rfl) ?_); (repeat (go_big_quiet_step (((with_reducible apply Gives.bw (Nat.le_refl _)); first | (with_reducible exact hr _) | (with_reducible exact hnum _) | (with_reducible exact hupd _))))); refine wpQuiet_nil ?_; rintro _ ⟨x, rfl⟩)
    go_wp2_with ((with_reducible (first | apply Gives.call_bw (Nat.le_refl _) | apply Gives.call)); (focus (first | (with_reducible exact hrt _) | (with_reducible exact hp2 _) | (with_reducible exact hgood _ _ _ (Row.new _ _ _)) | (with_reducible exact lives02_any))); intro x)
    go_ret
    exact ⟨rfl, by (first | (simp; done) | (repeat (first | assumption | exact Below.refl _ _ | (refine below_bw _ ?_ ?_; rotate_left; focus ((first | omega | (repeat (first | assumption | exact Nat.le_refl _ | refine BW.le_of ?_ | refine le_alloc ?_ | refine le_drew ?_ | refine le_drewN ?_ | refine le_set ?_ | refine le_plus ?_ ))))) | (refine Below.alloc ?_ ?_ _; rotate_left; focus ((first | omega | (repeat (first | assumption | exact Nat.le_refl _ | refine BW.le_of ?_ | refine le_alloc ?_ | refine le_drew ?_ | refine le_drewN ?_ | refine le_set ?_ | refine le_plus ?_ ))))) | (refine Below.setCell ?_ ?_ _; rotate_left; focus ((first | omega | (repeat (first | assumption | exact Nat.le_refl _ | refine BW.le_of ?_ | refine le_alloc ?_ | refine le_drew ?_ | refine le_drewN ?_ | refine le_set ?_ | refine le_plus ?_ ))))) | refine Below.drew ?_ | refine below_drewN ?_ _)))⟩
set_option maxRecDepth 100000 in
theorem sumUpdates_lifted (os : Os) (started : os.Started) (H : Type) (enc : TypeId × Value → H) :
    ReturnsInHanded {} Try.checked os 5 .any (Rows.sumUpdatesSpec.pre6 enc Try.prog Try.f5 Rows.sumUpdatesRow.domain false) (Rows.sumUpdatesSpec.post enc Try.prog Try.f5 false true false false) := by
  refine lifted_of_walk (C := Try.checked) (tb := 4) own started (by kernel_rfl) Try.func5
    (ChangeSpec.witness6 (enc := enc) (C := Try.checked) false ⟨#[], #[.string .empty, .int .u8 0, .int .u16 0], []⟩ 8 (by kernel_rfl) (by kernel_rfl) (by kernel_rfl) (by kernel_rfl))
    (by kernel_rfl) Try.underlying4 (by kernel_rfl) (by kernel_rfl) rfl ?_ ?_
  · intro ds hl
    match ds, hl with
    | [d0, d1, d2], _ => exact ⟨rfl, rfl, rfl⟩
  · intro W base args ds ps hval hA hfz
    have hA' : DataW.TrodAll enc Try.prog W 0 (fun _ => true) true Try.f5.params.toList args.toList ds ps := hA
    rw [Try.params5] at hA'
    obtain ⟨v0, vs0, d0, ds0, p0, q0, hargs0, rfl, rfl, h0, r0⟩ := trodAll_cons hA'
    obtain ⟨v1, vs1, d1, ds1, p1, q1, hargs1, rfl, rfl, h1, r1⟩ := trodAll_cons r0
    obtain ⟨v2, vs2, d2, ds2, p2, q2, hargs2, rfl, rfl, h2, r2⟩ := trodAll_cons r1
    obtain ⟨hvs, rfl, rfl⟩ := trodAll_nil r2
    obtain rfl : args = #[v0, v1, v2] := by cases args; simp_all
    have g0 := hval 0 9 v0 rfl rfl
    have g1 := hval 1 5 v1 rfl rfl
    have g2 := hval 2 35 v2 rfl rfl
    obtain ⟨s, rfl, _⟩ := open_str Try.underlying9 g0
    obtain ⟨n, rfl⟩ := open_u8 Try.underlying5 g1
    obtain ⟨m, rfl, hm⟩ := open_u16 Try.underlying35 g2
    exact updates_walk n.toNat_lt hm
theorem sumUpdates_proved : Rows.SumUpdatesSaid :=
  OpenClaim.holds_of_wide 5 Try.f5 rfl rfl rfl rfl rfl rfl rfl ⟨rfl, rfl, rfl, rfl, rfl⟩ rfl rfl rfl rfl rfl (by kernel_rfl) Try.func5 (by kernel_rfl)
    (of_decide_eq_true (by kernel_rfl)) (by unfold Func.isWrapper; first | (rw [if_pos (by decide +kernel)]; kernel_rfl) | (rw [if_neg (by decide +kernel)]; exact ⟨rfl, rfl⟩))
    (fun os started H enc _ => sumUpdates_lifted os started H enc)
end Go.Proofs.Ytelbaoiihbhdpaa
