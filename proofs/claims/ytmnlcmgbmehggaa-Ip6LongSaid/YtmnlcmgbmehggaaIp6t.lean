/-
  Contracts of package ip6 and of its reference: a packet is read: any bytes.
-/
import Derived.Test.YtmnlcmgbmehggaaIp6r1
import Derived.Test.YtmnlcmgbmehggaaIp6r2
import Derived.Test.YtmnlcmgbmehggaaIp6r3
import Derived.Test.YtmnlcmgbmehggaaIp6r4
import Derived.Test.YtmnlcmgbmehggaaIp6r5
import Derived.Test.YtmnlcmgbmehggaaIp6r6
import Derived.Test.YtmnlcmgbmehggaaIp6r7
import Derived.Test.YtmnlcmgbmehggaaIp6s1
import Derived.Test.YtmnlcmgbmehggaaIp6s2
import Derived.Test.YtmnlcmgbmehggaaIp6s3
import Derived.Test.YtmnlcmgbmehggaaIp6s4
import Derived.Test.YtmnlcmgbmehggaaIp6s5
import Derived.Test.YtmnlcmgbmehggaaIp6s6
import Derived.Test.YtmnlcmgbmehggaaIp6s7
import Derived.Test.YtmnlcmgbmehggaaIp6s8
import Derived.Test.YtmnlcmgbmehggaaIp6s9
import Derived.Test.YtmnlcmgbmehggaaIp6sa
namespace Go.Proofs.Ytmnlcmgbmehggaa
open Go.ChangeShapes Go.WideShapes Go.ChangeAt Go.RowKit
set_option linter.unusedVariables false
set_option linter.unusedSimpArgs false

theorem err6_end {s : ByteArray} (h : s.size < 40) : err6 s = 3 ∧ p6Of s = p6z := by
  have hp : pre6 s = 3 := by unfold pre6; rw [if_pos h]
  have he : err6 s = 3 := by unfold err6; rw [if_pos (by rw [hp]; decide), hp]
  exact ⟨he, by unfold p6Of; rw [if_pos (by rw [he]; decide)]⟩
theorem Read6_any {s : ByteArray} {w : World} (hs : s.size ≤ 100000) : Gives Try.prog 11 #[.string s] w (.tuple #[.agg (p6Of s).L.toArray, .int .i64 (err6 s)]) := by
  by_cases h : s.size < 40
  · rw [(err6_end h).1, (err6_end h).2, p6z_segs]
    exact Read6_end h
  have h : 40 ≤ s.size := by omega
  by_cases hk : wd6 s / 268435456 = 6
  · by_cases hl : s.size < 40 + numAt s 4 2
    · exact Read6_cut h hs hk hl
    have hl : 40 + numAt s 4 2 ≤ s.size := by omega
    by_cases hn : by6 s 6 = 0
    · by_cases hg : (strip6 (bo6 s)).err = 0
      · by_cases hz : (strip6 (bo6 s)).rest.size ≤ 1400
        · exact Read6_opt h hs hk hl hn hg hz
        · exact Read6_far h hs hk hl hn hg (by omega)
      · exact Read6_bad h hs hk hl hn hg
    · by_cases hg : numAt s 4 2 ≤ 1400
      · exact Read6_ok h hs hk hl hn hg
      · exact Read6_long h hs hk hl hn (by omega)
  · exact Read6_kind h hs hk
set_option maxRecDepth 20000 in
theorem rRead6_end {s : ByteArray} {w : World} (h : s.size < 40) : Gives Try.prog 12 #[.string s] w (.tuple #[.agg (p6Of s).L.toArray, .int .i64 (err6 s)]) := by
  rw [(err6_end h).1, (err6_end h).2, p6z_segs]
  have d : decide ((s.size : Int) < 40) = true := decide_eq_true (by omega)
  refine Gives.of ?_
  have hH := Hp.refl w
  go_enter Try.func12, Try.ntmps12
  go_wp2_with (first | ((first | (refine gL rfl ?_; first | refine hL1 tab_ok 0 rfl rfl rfl hH rfl rfl rfl rfl ?_ | refine hL1 tab_ok 1 rfl rfl rfl hH rfl rfl rfl rfl ?_ | refine hL1 tab_ok 2 rfl rfl rfl hH rfl rfl rfl rfl ?_ | refine hL1 tab_ok 3 rfl rfl rfl hH rfl rfl rfl rfl ?_ | refine hLR tab_ok 0 rfl rfl rfl hH rfl rfl rfl rfl ?_ | refine hLR tab_ok 1 rfl rfl rfl hH rfl rfl rfl rfl ?_ | refine hLR tab_ok 2 rfl rfl rfl hH rfl rfl rfl rfl ?_ | refine hLR tab_ok 3 rfl rfl rfl hH rfl rfl rfl rfl ?_ | (refine hL1i tab_ok 0 rfl rfl rfl hH rfl rfl rfl rfl ?_; refine ⟨?_, ?_, ?_⟩; rotate_left; (focus assumption)) | (refine hL1i tab_ok 1 rfl rfl rfl hH rfl rfl rfl rfl ?_; refine ⟨?_, ?_, ?_⟩; rotate_left; (focus assumption)) | (refine hL1i tab_ok 2 rfl rfl rfl hH rfl rfl rfl rfl ?_; refine ⟨?_, ?_, ?_⟩; rotate_left; (focus assumption)) | (refine hL1i tab_ok 3 rfl rfl rfl hH rfl rfl rfl rfl ?_; refine ⟨?_, ?_, ?_⟩; rotate_left; (focus assumption))) | (refine gS rfl ?_; first | refine hS1 tab_ok 0 rfl rfl rfl rfl hH rfl rfl rfl rfl rfl ?_ | refine hS1 tab_ok 1 rfl rfl rfl rfl hH rfl rfl rfl rfl rfl ?_ | refine hS1 tab_ok 2 rfl rfl rfl rfl hH rfl rfl rfl rfl rfl ?_ | refine hS1 tab_ok 3 rfl rfl rfl rfl hH rfl rfl rfl rfl rfl ?_ | (refine hSR tab_ok 0 rfl rfl rfl rfl hH rfl rfl rfl rfl rfl ?_ ?_; (focus (repeat (first | exact trivial | assumption | exact OkA.z (by kernel_rfl) (by kernel_rfl) | refine ⟨rfl, ?_⟩ | refine ⟨?_, ?_⟩)))) | (refine hSR tab_ok 1 rfl rfl rfl rfl hH rfl rfl rfl rfl rfl ?_ ?_; (focus (repeat (first | exact trivial | assumption | exact OkA.z (by kernel_rfl) (by kernel_rfl) | refine ⟨rfl, ?_⟩ | refine ⟨?_, ?_⟩)))) | (refine hSR tab_ok 2 rfl rfl rfl rfl hH rfl rfl rfl rfl rfl ?_ ?_; (focus (repeat (first | exact trivial | assumption | exact OkA.z (by kernel_rfl) (by kernel_rfl) | refine ⟨rfl, ?_⟩ | refine ⟨?_, ?_⟩)))) | (refine hSR tab_ok 3 rfl rfl rfl rfl hH rfl rfl rfl rfl rfl ?_ ?_; (focus (repeat (first | exact trivial | assumption | exact OkA.z (by kernel_rfl) (by kernel_rfl) | refine ⟨rfl, ?_⟩ | refine ⟨?_, ?_⟩))))) | refine hAl tab_ok rfl rfl hH rfl ?_ | refine hBx1 rfl rfl rfl hH ?_ | (refine hBx rfl rfl rfl hH ?_ ?_; (focus (repeat (first | exact trivial | assumption | exact OkA.z (by kernel_rfl) (by kernel_rfl) | refine ⟨rfl, ?_⟩ | refine ⟨?_, ?_⟩)))) | (refine hBd tab_ok rfl rfl rfl rfl rfl hH ?_; refine ⟨?_, ?_, ?_⟩; rotate_left; (focus (repeat (first | exact BR.nil | refine BR.one rfl rfl rfl ?_ | (refine BR.row rfl rfl rfl rfl ?_ ?_; (focus (repeat (first | exact trivial | assumption | exact OkA.z (by kernel_rfl) (by kernel_rfl) | refine ⟨rfl, ?_⟩ | refine ⟨?_, ?_⟩))))))))); clear hH; (first | intro W g hH | intro W hH); (try simp only [Act.put, List.setIfInBounds_toArray, List.set_cons_succ, List.set_cons_zero])))
  (first | refine retC2 Try.results12 tab_ok 0 rfl rfl hH rfl rfl rfl rfl ?_ | refine retC2 Try.results12 tab_ok 1 rfl rfl hH rfl rfl rfl rfl ?_ | refine retC2 Try.results12 tab_ok 2 rfl rfl hH rfl rfl rfl rfl ?_ | refine retC2 Try.results12 tab_ok 3 rfl rfl hH rfl rfl rfl rfl ?_)
  exact ⟨rfl, hH.below⟩
theorem rRead6_any {s : ByteArray} {w : World} (hs : s.size ≤ 100000) : Gives Try.prog 12 #[.string s] w (.tuple #[.agg (p6Of s).L.toArray, .int .i64 (err6 s)]) := by
  by_cases h : s.size < 40
  · exact rRead6_end h
  have h : 40 ≤ s.size := by omega
  by_cases hk : wd6 s / 268435456 = 6
  · by_cases hl : s.size < 40 + numAt s 4 2
    · exact rRead6_cut h hs hk hl
    have hl : 40 + numAt s 4 2 ≤ s.size := by omega
    by_cases hn : by6 s 6 = 0
    · by_cases h8 : numAt s 4 2 < 8
      · exact rRead6_short h hs hk hl hn h8
      have h8 : 8 ≤ numAt s 4 2 := by omega
      by_cases hg : numAt s 4 2 < (by6 (bo6 s) 1 + 1) * 8
      · exact rRead6_shorter h hs hk hl hn h8 hg
      have hg : (by6 (bo6 s) 1 + 1) * 8 ≤ numAt s 4 2 := by omega
      by_cases hx : (opt6s ((bo6 s).extract 2 ((by6 (bo6 s) 1 + 1) * 8))).2 = 0
      · by_cases hy : by6 (bo6 s) 0 = 0
        · exact rRead6_none h hs hk hl hn h8 hg hx hy
        · by_cases hw : numAt s 4 2 - (by6 (bo6 s) 1 + 1) * 8 ≤ 1400
          · exact rRead6_opt h hs hk hl hn h8 hg hx hy hw
          · exact rRead6_far h hs hk hl hn h8 hg hx hy (by omega)
      · exact rRead6_bad h hs hk hl hn h8 hg hx
    · by_cases hg : numAt s 4 2 ≤ 1400
      · exact rRead6_ok h hs hk hl hn hg
      · exact rRead6_long h hs hk hl hn (by omega)
  · exact rRead6_kind h hs hk
theorem strip6_bd (b : ByteArray) : (0 ≤ (strip6 b).next ∧ (strip6 b).next < 256) ∧ (strip6 b).rest.size ≤ b.size ∧ ((strip6 b).err = 0 → (strip6 b).next ≠ 0) := by
  have h0 := by6_lt b 0
  unfold strip6
  split
  · exact ⟨⟨by simp, by simp⟩, Nat.zero_le _, by simp⟩
  · refine ⟨⟨by simp, by simp; omega⟩, Nat.le_trans (cut_size2 b _ _) (by omega), fun h => ?_⟩
    simp only at h ⊢
    intro hz
    by_cases h1 : (opt6s (b.extract 2 ((by6 b 1 + 1) * 8))).2 = 0
    · rw [if_pos ⟨h1, by omega⟩] at h
      exact absurd h (by decide)
    · rw [if_neg (fun k => h1 k.1)] at h
      exact h1 h
theorem p6Of_ok (s : ByteArray) : (p6Of s).Ok := by
  have h1 : (adOf (s.extract 8 24)).length = 16 := adOf_length (cut_size2 s 8 24)
  have h2 : (adOf (s.extract 24 40)).length = 16 := adOf_length (cut_size2 s 24 40)
  unfold p6Of
  split
  · exact p6z_ok
  · split
    · exact ⟨h1, h2⟩
    · exact ⟨h1, h2⟩
theorem p6Of_rg (s : ByteArray) (hs : s.size ≤ 100000) : (p6Of s).Rg := by
  have b6 := by6_lt s 6
  have b7 := by6_lt s 7
  have hb := strip6_bd (bo6 s)
  have hz : (bo6 s).size ≤ 70000 := by
    have := numAt_lt s 4 2
    have h2 : (bo6 s).size ≤ 40 + numAt s 4 2 - 40 := cut_size2 s 40 (40 + numAt s 4 2)
    have h3 : numAt s 4 2 < 65536 := this
    omega
  unfold p6Of
  split
  · exact p6z_rg
  · split
    · exact ⟨⟨by first | omega | (simp only; omega), by first | omega | (simp only; omega)⟩, ⟨by first | omega | (simp only; omega), by first | omega | (simp only; omega)⟩, ⟨by first | omega | (simp only; omega), by first | omega | (simp only; omega)⟩, ⟨by first | omega | (simp only; omega), by first | omega | (simp only; omega)⟩, by first | omega | (simp only; omega)⟩
    · exact ⟨⟨by first | omega | (simp only; omega), by first | omega | (simp only; omega)⟩, ⟨by first | omega | (simp only; omega), by first | omega | (simp only; omega)⟩, ⟨by first | omega | (simp only; omega), by first | omega | (simp only; omega)⟩, ⟨by first | omega | (simp only; omega), by first | omega | (simp only; omega)⟩, by first | omega | (simp only; omega)⟩
end Go.Proofs.Ytmnlcmgbmehggaa
