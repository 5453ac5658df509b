/-
  'SumParts': the sum of any parts, wherever they are cut. 'SumPseudo': the bytes ahead of what is summed.
-/
import Derived.Test.YtelbaoiihbhdpaaSumLaws
import Derived.SliceStrings
namespace Go.Proofs.Ytelbaoiihbhdpaa
open Go.ChangeShapes Go.WideShapes Go.ChangeAt Go.RowKit
set_option linter.unusedVariables false
set_option linter.unusedSimpArgs false

/-- texts that lie in a block of the call's own -/
def TextsOut (w : World) (ss : List ByteArray) (e : Ending) (w' : World) : Prop :=
  ∃ g c, ∃ x : BW w.heap.size w, e = .returned (.slice (some ⟨g, 0, none⟩) ss.length c) ∧ w' = x.w ∧ g < x.w.heap.size ∧ ∀ i s, ss[i]? = some s → x.w.cell? ⟨g, 0 + i, none⟩ = some (.string s)
theorem elemStr : Elem1 Try.prog 29 9 16 := elem1_mk Try.underlying29 (z := .string ⟨#[]⟩) (by kernel_rfl) rfl
def fewL (L : List ByteArray) (m : Nat) : List ByteArray := (L.take m).map fun s => s.extract 0 40
theorem fewL_succ {L : List ByteArray} {k : Nat} (h : k < L.length) : fewL L (k + 1) = fewL L k ++ [L[k].extract 0 40] := by
  unfold fewL
  rw [List.take_add_one, List.getElem?_eq_getElem h, List.map_append]
  rfl
theorem fewL_length (L : List ByteArray) (m : Nat) : (fewL L m).length = min m L.length := by simp [fewL]
theorem fewL_all {L : List ByteArray} {k : Nat} (h : L.length ≤ k) {m : Nat} (hm : k ≤ m) : fewL L k = fewL L m := by
  unfold fewL
  rw [List.take_of_length_le h, List.take_of_length_le (Nat.le_trans h hm)]
theorem few_any {a : Addr} {L : List ByteArray} {c m : Nat} {w : World} (hL : L.length ≤ 9223372036854775807) (hm : m ≤ 1000) (hc : ∀ i s, L[i]? = some s → w.cell? (a.add i) = some (.string s)) (hb : ∀ i, i < L.length → (a.add i).block < w.heap.size) :
    Calls Try.prog 15 #[.slice (some a) L.length c, .int .i64 m] w (TextsOut w (fewL L m)) := by
  have HC := Lib.hid hc
  have HB := Lib.hid hb
  clear hc hb
  go_enter Try.func15, Try.ntmps15
  go_wp2
  go_loopw [5, 6] (fun v i wr => ∃ k : Nat, k ≤ L.length ∧ k ≤ m ∧ i = .int .i64 k ∧ (∃ g c, v = .slice (some ⟨g, 0, none⟩) k c) ∧ wr.ownsRow w.heap.size 9 1 v k ((fewL L k).map Value.string) ∧ Below w.heap.size w wr) (fun _ i _ => m - (intOf i).toNat)
  case atStart => exact ⟨0, by omega, by omega, rfl, ⟨_, _, rfl⟩, ⟨rfl, .inr ⟨w.heap.size, 0, #[], rfl, Nat.le_refl _, heap_alloc_new w _, Nat.le_refl _, by simp only [maxLen]; omega, rfl, rfl⟩⟩, by (first | (simp; done) | (repeat (first | assumption | exact Below.refl _ _ | (refine below_bw _ ?_ ?_; rotate_left; focus ((first | omega | (repeat (first | assumption | exact Nat.le_refl _ | refine BW.le_of ?_ | refine le_alloc ?_ | refine le_drew ?_ | refine le_drewN ?_ | refine le_set ?_ | refine le_plus ?_ ))))) | (refine Below.alloc ?_ ?_ _; rotate_left; focus ((first | omega | (repeat (first | assumption | exact Nat.le_refl _ | refine BW.le_of ?_ | refine le_alloc ?_ | refine le_drew ?_ | refine le_drewN ?_ | refine le_set ?_ | refine le_plus ?_ ))))) | (refine Below.setCell ?_ ?_ _; rotate_left; focus ((first | omega | (repeat (first | assumption | exact Nat.le_refl _ | refine BW.le_of ?_ | refine le_alloc ?_ | refine le_drew ?_ | refine le_drewN ?_ | refine le_set ?_ | refine le_plus ?_ ))))) | refine Below.drew ?_ | refine below_drewN ?_ _)))⟩
  case round =>
    obtain ⟨k, hk, hkm, rfl, ⟨g, c1, rfl⟩, hown, hbel⟩ := hrel
    have hsz := hbel.size
    have HO := Lib.hid hown
    by_cases hlt : k < L.length
    · by_cases hlm : k < m
      · have hcell : wr.cell? (a.add k) = some (.string L[k]) := (hbel.cell (HB.out k hlt)).trans (HC.out k _ (List.getElem?_eq_getElem hlt))
        have HF := Lib.hid (fewL_succ hlt)
        generalize L[k] = s at *
        have hcut : ∀ w, Gives Try.prog 8 #[.string s, .int .i64 40] w (.string (s.extract 0 40)) := fun w => cut_any
        clear hown
        obtain ⟨wo, rfl⟩ : ∃ wo : World, wo = wr := ⟨_, rfl⟩
        go_wp2_with (first | (at_builtin; refine wpList_app1 elemStr rfl _ _ rfl rfl rfl (own_below HO.out (below_bw _ (Below.refl _ _) (Nat.le_refl _))) rfl (by omega) (by simp only [maxLen]; omega) (Nat.le_trans hsz (below_bw _ (Below.refl _ _) (Nat.le_refl _)).size) ?_; intro v1 w1 hown1 hbel1; have hb1 := hbel.trans (((below_bw _ (Below.refl _ _) (Nat.le_refl _)).mono hsz).trans hbel1)) | ((with_reducible (first | apply Gives.call_bw (Nat.le_refl _) | apply Gives.call)); (focus (first | (with_reducible exact hcut _))); intro x))
        have hv1 : ∃ g c, v1 = .slice (some ⟨g, 0, none⟩) (k + 1) c := by
          rcases hown1.2 with ⟨_, h0⟩ | ⟨g1, c2, _, h1, _⟩
          · omega
          · exact ⟨g1, c2, h1⟩
        refine ⟨⟨k + 1, by omega, by omega, by go_num, hv1, ?_, hb1⟩, by simp [intOf]; omega⟩
        rw [HF.out, List.map_append]
        exact hown1
      · obtain rfl : k = m := by omega
        clear hown
        go_wp2
        go_ret
        rcases HO.out.2 with ⟨h0, _⟩ | ⟨g1, c2, cur, h1, hg1, hh, _, _, hcs, htk⟩
        · cases h0
        · have hl : (fewL L k).length = k := by rw [fewL_length]; omega
          injection h1 with e1 e2 e3
          injection e1 with e1
          injection e1 with e1
          subst e1
          refine ⟨g, c1, BW.mk hbel, by rw [hl]; rfl, rfl, Row.lt (t := 9) (cs := cur) hh, fun i s hs => ?_⟩
          have hr : Row wr g 9 cur := hh
          rw [BW.mk_w, Nat.zero_add, hr.cell]
          have h2 : (cur.toList.take (k * 1))[i]? = some (.string s) := by rw [htk]; simp [hs]
          rw [List.getElem?_take] at h2
          split at h2
          · simpa using h2
          · cases h2
    · obtain rfl : k = L.length := by omega
      clear hown
      have hfm : fewL L L.length = fewL L m := fewL_all (Nat.le_refl _) hkm
      rw [hfm] at HO
      go_wp2
      go_ret
      rcases HO.out.2 with ⟨h0, _⟩ | ⟨g1, c2, cur, h1, hg1, hh, _, _, hcs, htk⟩
      · cases h0
      · have hl : (fewL L m).length = L.length := by rw [fewL_length]; omega
        injection h1 with e1 e2 e3
        injection e1 with e1
        injection e1 with e1
        subst e1
        refine ⟨g, c1, BW.mk hbel, by rw [hl]; rfl, rfl, Row.lt (t := 9) (cs := cur) hh, fun i s hs => ?_⟩
        have hr : Row wr g 9 cur := hh
        rw [BW.mk_w, Nat.zero_add, hr.cell]
        have h2 : (cur.toList.take (L.length * 1))[i]? = some (.string s) := by rw [htk]; simp [hs]
        rw [List.getElem?_take] at h2
        split at h2
        · simpa using h2
        · cases h2
theorem few_nil {m : Nat} {w : World} (hm : m ≤ 1000) : Calls Try.prog 15 #[.slice none 0 0, .int .i64 m] w (TextsOut w []) := by
  go_enter Try.func15, Try.ntmps15
  go_wp2
  go_loopw [5, 6] (fun v i wr => i = .int .i64 0 ∧ v = .slice (some ⟨w.heap.size, 0, none⟩) 0 0 ∧ w.heap.size < wr.heap.size ∧ Below w.heap.size w wr) (fun _ i _ => 0)
  case atStart => exact ⟨rfl, rfl, by simp, by (first | (simp; done) | (repeat (first | assumption | exact Below.refl _ _ | (refine below_bw _ ?_ ?_; rotate_left; focus ((first | omega | (repeat (first | assumption | exact Nat.le_refl _ | refine BW.le_of ?_ | refine le_alloc ?_ | refine le_drew ?_ | refine le_drewN ?_ | refine le_set ?_ | refine le_plus ?_ ))))) | (refine Below.alloc ?_ ?_ _; rotate_left; focus ((first | omega | (repeat (first | assumption | exact Nat.le_refl _ | refine BW.le_of ?_ | refine le_alloc ?_ | refine le_drew ?_ | refine le_drewN ?_ | refine le_set ?_ | refine le_plus ?_ ))))) | (refine Below.setCell ?_ ?_ _; rotate_left; focus ((first | omega | (repeat (first | assumption | exact Nat.le_refl _ | refine BW.le_of ?_ | refine le_alloc ?_ | refine le_drew ?_ | refine le_drewN ?_ | refine le_set ?_ | refine le_plus ?_ ))))) | refine Below.drew ?_ | refine below_drewN ?_ _)))⟩
  case round =>
    obtain ⟨rfl, rfl, hlt, hbel⟩ := hrel
    go_wp2
    go_ret
    exact ⟨_, _, BW.mk hbel, rfl, rfl, hlt, fun i s hs => by simp at hs⟩
theorem parts_walk {l : Value} {F : List ByteArray} {n : Nat} {w : World} (hn : n < 18446744073709551616) (hF : ∀ s ∈ F, s.size ≤ 40) (hl : F.length ≤ 5)
    (hfew : ∀ w', Below w.heap.size w w' → Calls Try.prog 15 #[l, .int .i64 5] w' (TextsOut w' F)) : Gives Try.prog 4 #[l, .int .u64 n] w (.bool true) := by
  refine Gives.of ?_
  have hF2 : ∀ s ∈ F, s.size ≤ 9223372036854775807 := fun s hs => by have := hF s hs; omega
  have hlen : (flat F).length ≤ 200 := by have h := flat_take_le hF F.length; rw [List.take_of_length_le (Nat.le_refl _)] at h; omega
  have hsum : ∀ w, Gives Try.prog 13 #[.string (str (flat F))] w (.int .i64 (foldN (wsum (flat F)) : Int)) := fun w => rSum_any (by rw [str_size]; omega)
  have hf1 : ∀ w, Gives Try.prog 17 #[.int .u64 n] w (.int .i64 (foldN n : Int)) := fun w => Fold_any hn
  have hf2 : ∀ w, Gives Try.prog 18 #[.int .u64 n] w (.int .i64 (foldN n : Int)) := fun w => rFold_any hn
  have hfl := foldN_le (wsum (flat F))
  have hq : ((65535 - foldN (wsum (flat F)) : Nat) : Int) = 65535 - (foldN (wsum (flat F)) : Int) := by omega
  have hcheck : ∀ w g c, (∀ i s, F[i]? = some s → w.cell? ⟨g, 0 + i, none⟩ = some (.string s)) → g < w.heap.size → Gives Try.prog 9 #[.slice (some ⟨g, 0, none⟩) F.length c] w (.int .i64 (65535 - (foldN (wsum (flat F)) : Int))) := fun w g c h hg => by
    rw [← hq]; exact Check_any h hF2 (by omega) hg
  have hgood : ∀ w g c, (∀ i s, F[i]? = some s → w.cell? ⟨g, 0 + i, none⟩ = some (.string s)) → g < w.heap.size → Gives Try.prog 10 #[.slice (some ⟨g, 0, none⟩) F.length c] w (.bool ((foldN (wsum (flat F)) : Int) == 65535)) := fun w g c h hg => by
    have e : ((foldN (wsum (flat F)) : Int) == 65535) = decide (foldN (wsum (flat F)) = 65535) := by rw [Bool.eq_iff_iff]; simp; omega
    rw [e]; exact Good_any h hF2 (by omega) hg
  have hSum : ∀ w g c, (∀ i s, F[i]? = some s → w.cell? ⟨g, 0 + i, none⟩ = some (.string s)) → g < w.heap.size → Gives Try.prog 16 #[.slice (some ⟨g, 0, none⟩) F.length c] w (.int .i64 (foldN (wsum (flat F)) : Int)) := fun w g c h hg => Sum_any h hF2 (by omega) hg
  generalize foldN (wsum (flat F)) = q at *
  generalize hnf : foldN n = nf at *
  clear hq hnf
  have HFEW := Lib.hid hfew
  clear hfew
  go_enter Try.func4, Try.ntmps4
  go_wp2_with (first | (go_at_call 15; refine (HFEW.out _ ?_).mono ?_; (focus ((first | (simp; done) | (repeat (first | assumption | exact Below.refl _ _ | (refine below_bw _ ?_ ?_; rotate_left; focus ((first | omega | (repeat (first | assumption | exact Nat.le_refl _ | refine BW.le_of ?_ | refine le_alloc ?_ | refine le_drew ?_ | refine le_drewN ?_ | refine le_set ?_ | refine le_plus ?_ ))))) | (refine Below.alloc ?_ ?_ _; rotate_left; focus ((first | omega | (repeat (first | assumption | exact Nat.le_refl _ | refine BW.le_of ?_ | refine le_alloc ?_ | refine le_drew ?_ | refine le_drewN ?_ | refine le_set ?_ | refine le_plus ?_ ))))) | (refine Below.setCell ?_ ?_ _; rotate_left; focus ((first | omega | (repeat (first | assumption | exact Nat.le_refl _ | refine BW.le_of ?_ | refine le_alloc ?_ | refine le_drew ?_ | refine le_drewN ?_ | refine le_set ?_ | refine le_plus ?_ ))))) | refine Below.drew ?_ | refine below_drewN ?_ _))))); rintro e w1 ⟨g, cc, x1, rfl, rfl, hg1, hc1⟩) | ((with_reducible (first | apply Gives.call_bw (Nat.le_refl _) | apply Gives.call)); (focus (first | (with_reducible exact hcheck _ _ _ (by assumption) (by assumption)) | (with_reducible exact hgood _ _ _ (by assumption) (by assumption)) | (with_reducible exact rAll_any (by assumption) hF (by omega) (by assumption)) | (with_reducible exact hSum _ _ _ (by assumption) (by assumption)) | (with_reducible exact hsum _) | (with_reducible exact hf1 _) | (with_reducible exact hf2 _) | (with_reducible exact lives02_any))); intro x))
  go_ret
  exact ⟨rfl, by (first | (simp; done) | (repeat (first | assumption | exact Below.refl _ _ | (refine below_bw _ ?_ ?_; rotate_left; focus ((first | omega | (repeat (first | assumption | exact Nat.le_refl _ | refine BW.le_of ?_ | refine le_alloc ?_ | refine le_drew ?_ | refine le_drewN ?_ | refine le_set ?_ | refine le_plus ?_ ))))) | (refine Below.alloc ?_ ?_ _; rotate_left; focus ((first | omega | (repeat (first | assumption | exact Nat.le_refl _ | refine BW.le_of ?_ | refine le_alloc ?_ | refine le_drew ?_ | refine le_drewN ?_ | refine le_set ?_ | refine le_plus ?_ ))))) | (refine Below.setCell ?_ ?_ _; rotate_left; focus ((first | omega | (repeat (first | assumption | exact Nat.le_refl _ | refine BW.le_of ?_ | refine le_alloc ?_ | refine le_drew ?_ | refine le_drewN ?_ | refine le_set ?_ | refine le_plus ?_ ))))) | refine Below.drew ?_ | refine below_drewN ?_ _)))⟩
theorem fewL_small (L : List ByteArray) (m : Nat) : ∀ s ∈ fewL L m, s.size ≤ 40 := by
  intro s hs
  simp only [fewL, List.mem_map] at hs
  obtain ⟨u, _, rfl⟩ := hs
  rw [← size_toList, toList_extract, List.length_take]
  omega
theorem cell_lt {w : World} {p : Addr} {v : Value} (h : w.cell? p = some v) : p.block < w.heap.size := by
  by_cases hlt : p.block < w.heap.size
  · exact hlt
  · unfold World.cell? at h
    rw [Array.getElem?_eq_none (by omega)] at h
    simp at h
theorem parts_open {H : Type} {enc : TypeId × Value → H} {W : World} {base n : Nat} {v : Value} {d : DataW H} {p : List MemPlace} (hn : n < 18446744073709551616) (g : Value.okWide Try.prog W .any base 29 v)
    (h : DataW.Trod enc Try.prog W 0 (fun _ => true) true 29 v d p) : Gives Try.prog 4 #[v, .int .u64 n] W (.bool true) := by
  obtain ⟨b0, n0, c0, rfl⟩ := okWide_slice Try.underlying29 g
  obtain ⟨fuel0, hf0⟩ := h
  rcases open_strings Try.underlying29 Try.underlying9 (by kernel_rfl) hf0 with ⟨hc, _⟩ | ⟨a, len, cap, ss, hc, _, hlc, hcm, hsl, hx, hcells, hsz⟩
  · simp [Value.cells] at hc
    obtain ⟨rfl, rfl, rfl⟩ := hc
    exact parts_walk (F := []) hn (by simp) (by simp) (fun w1 _ => few_nil (m := 5) (by omega))
  · simp [Value.cells] at hc
    obtain ⟨rfl, rfl, rfl⟩ := hc
    simp only [if_true] at hsl
    have hlen : (ss.take n0).length = n0 := by rw [List.length_take]; omega
    refine parts_walk (F := fewL (ss.take n0) 5) hn (fewL_small _ _) (by rw [fewL_length]; omega) (fun w' hb => ?_)
    have hcm2 : c0 ≤ 9223372036854775807 := by simpa only [maxLen] using hcm
    have h := few_any (a := a) (L := ss.take n0) (c := c0) (m := 5) (w := w') (by omega) (by omega) (fun i s hs => ?_) (fun i hi => Nat.lt_of_lt_of_le (cell_lt (hcells i (by omega))) hb.size)
    · rw [hlen] at h
      exact h
    · have hi : i < n0 := by have := (List.getElem?_eq_some_iff.1 hs).1; omega
      have hci := hcells i (by omega)
      rw [hb.cell (cell_lt hci), hci]
      rw [List.getElem?_take, if_pos hi] at hs
      simp [List.getD, hs]
set_option maxRecDepth 100000 in
theorem sumParts_lifted (os : Os) (started : os.Started) (H : Type) (enc : TypeId × Value → H) :
    ReturnsInHanded {} Try.checked os 4 .any (Rows.sumPartsSpec.pre6 enc Try.prog Try.f4 Rows.sumPartsRow.domain false) (Rows.sumPartsSpec.post enc Try.prog Try.f4 false true false false) := by
  refine lifted_of_walk (C := Try.checked) (tb := 4) own started (by kernel_rfl) Try.func4
    (ChangeSpec.witness6 (enc := enc) (C := Try.checked) false ⟨#[], #[.slice none 0 0, .int .u64 0], []⟩ 8 (by kernel_rfl) (by kernel_rfl) (by kernel_rfl) (by kernel_rfl))
    (by kernel_rfl) Try.underlying4 (by kernel_rfl) (by kernel_rfl) rfl ?_ ?_
  · intro ds hl
    match ds, hl with
    | [d0, d1], _ => exact ⟨rfl, rfl, rfl⟩
  · intro W base args ds ps hval hA hfz
    have hA' : DataW.TrodAll enc Try.prog W 0 (fun _ => true) true Try.f4.params.toList args.toList ds ps := hA
    rw [Try.params4] at hA'
    obtain ⟨v0, vs0, d0, ds0, p0, q0, hargs0, rfl, rfl, h0, r0⟩ := trodAll_cons hA'
    obtain ⟨v1, vs1, d1, ds1, p1, q1, hargs1, rfl, rfl, h1, r1⟩ := trodAll_cons r0
    obtain ⟨hvs, rfl, rfl⟩ := trodAll_nil r1
    obtain rfl : args = #[v0, v1] := by cases args; simp_all
    have g0 := hval 0 29 v0 rfl rfl
    have g1 := hval 1 26 v1 rfl rfl
    obtain ⟨n, rfl, hn⟩ := open_u64 Try.underlying26 g1
    exact parts_open hn g0 h0
theorem sumParts_proved : Rows.SumPartsSaid :=
  OpenClaim.holds_of_wide 4 Try.f4 rfl rfl rfl rfl rfl rfl rfl ⟨rfl, rfl, rfl, rfl, rfl⟩ rfl rfl rfl rfl rfl (by kernel_rfl) Try.func4 (by kernel_rfl)
    (of_decide_eq_true (by kernel_rfl)) (by unfold Func.isWrapper; first | (rw [if_pos (by decide +kernel)]; kernel_rfl) | (rw [if_neg (by decide +kernel)]; exact ⟨rfl, rfl⟩))
    (fun os started H enc _ => sumParts_lifted os started H enc)
end Go.Proofs.Ytelbaoiihbhdpaa
