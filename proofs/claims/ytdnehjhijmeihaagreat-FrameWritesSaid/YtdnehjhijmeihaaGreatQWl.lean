/-
  Joined texts: Wl.
-/
import Derived.Test.YtdnehjhijmeihaaGreatQJk
import Derived.Test.YtdnehjhijmeihaaGreatQWa
import Derived.Test.YtdnehjhijmeihaaGreatQVu
namespace Go.Proofs.YtdnehjhijmeihaaGreat
open Go.ChangeShapes Go.WideShapes Go.ChangeAt Go.RowKit
set_option linter.unusedVariables false
set_option linter.unusedSimpArgs false
set_option maxRecDepth 20000
set_option maxHeartbeats 2000000
section
variable {s d : ByteArray} {f a : Ad} {hop pr vl ty : Nat} {al : Bool} {xs ys pre post : List UInt8}
theorem num_at1 {v k : Nat} (hs : s.data.toList = pre ++ (putL v 1 ++ post)) (hk : pre.length = k) (hv : v < 256) : by4 s k = v := by
  have h := numAt_mid hs hk (by simpa using hv)
  have hz : k < s.size := by rw [← size_toList, hs]; simp only [List.length_append, putL_length]; omega
  rw [← numAt_one hz]; exact h
theorem cut_at {i j : Nat} {m : List UInt8} (hs : s.data.toList = pre ++ (m ++ post)) (hk : pre.length = i) (hj : i + m.length = j) : (s.extract i j).data.toList = m := by
  subst hk
  rw [toList_extract, hs, List.drop_left, show j - pre.length = m.length by omega, List.take_left]
theorem cut_end {i j : Nat} {d : ByteArray} (hs : s.data.toList = pre ++ d.data.toList) (hk : pre.length = i) (hj : i + d.size = j) : s.extract i j = d := by
  apply data_inj
  have hd := size_toList d
  exact cut_at (post := []) (by rw [hs, List.append_nil]) hk (by omega)
theorem src4_of (hv : a.v = false) (hg : goodA a.v a.b = true) : src4 a = true := by unfold src4; rw [hg, hv]; rfl
theorem back4 (hh : hop < 256) (hp : pr < 256) (hf : f.v = false) (ha : a.v = false) (gf : goodA f.v f.b = true) (ga : goodA a.v a.b = true) (hd : d.size ≤ 1400) : pk4 (w4 hop pr f a al d) = ⟨0, f, a, pr, hop, d, al⟩ := by
  have sf := src4_of hf gf
  have sa := src4_of ha ga
  have lf := src4_len sf
  have la := src4_len sa
  have hds := size_toList d
  obtain ⟨K, hK⟩ : ∃ K, (if al then 70 else 69) = K := ⟨_, rfl⟩
  obtain ⟨Z, hZ⟩ : ∃ Z, (if al then 24 else 20) = Z := ⟨_, rfl⟩
  have hKZ : K = 64 + Z / 4 ∧ (Z = 20 ∨ Z = 24) := by cases al <;> simp at hK hZ <;> omega
  have lo : (o4L al).length + 20 = Z := by rw [← hZ]; cases al <;> rfl
  obtain ⟨C, hC⟩ : ∃ C, 65535 - foldN (wsum (h4L hop pr al d.size ++ t4L f a al)) = C := ⟨_, rfl⟩
  have hl : (w4 hop pr f a al d).data.toList = putL K 1 ++ (putL 0 1 ++ (putL (Z + d.size) 2 ++ (putL 0 2 ++ (putL 0 2 ++ (putL hop 1 ++ (putL pr 1 ++ (putL C 2 ++ (bytesA f.v f.b ++ (bytesA a.v a.b ++ (o4L al ++ d.data.toList)))))))))) := by
    unfold w4 w4L; rw [hC]; unfold h4L t4L; rw [hK, hZ]; simp [str]
  have hhd : h4L hop pr al d.size = putL K 1 ++ (putL 0 1 ++ (putL (Z + d.size) 2 ++ (putL 0 2 ++ (putL 0 2 ++ (putL hop 1 ++ putL pr 1))))) := by unfold h4L; rw [hK, hZ]
  have hsum : foldN (wsum (h4L hop pr al d.size ++ (putL C 2 ++ t4L f a al))) = 65535 := by
    have hlen : (h4L hop pr al d.size).length = 10 := by rw [hhd]; simp only [List.length_append, putL_length]
    have hfl := foldN_le (wsum (h4L hop pr al d.size ++ t4L f a al))
    have w2 : wsum (putL C 2) = C := by rw [wsum_two _ (by rw [putL_length]), numL_putL, Nat.mod_eq_of_lt (by omega)]
    rw [wsum_append (by omega), wsum_append (by rw [putL_length]), w2]
    have h2 : wsum (h4L hop pr al d.size ++ t4L f a al) = wsum (h4L hop pr al d.size) + wsum (t4L f a al) := wsum_append (by omega) _
    rw [show wsum (h4L hop pr al d.size) + (C + wsum (t4L f a al)) = wsum (h4L hop pr al d.size ++ t4L f a al) + (65535 - foldN (wsum (h4L hop pr al d.size ++ t4L f a al))) by omega]
    exact fold_check _
  rw [hhd] at hsum
  unfold t4L at hsum
  clear hC hhd
  have hz : (w4 hop pr f a al d).size = Z + d.size := by rw [← size_toList, hl]; simp only [List.length_append, putL_length]; omega
  generalize w4 hop pr f a al d = s at *
  have b0 : by4 s 0 = K := num_at1 (pre := []) hl rfl (by omega)
  have n2 : numAt s 2 2 = Z + d.size := numAt_mid (pre := putL K 1 ++ putL 0 1) (by rw [hl]; simp only [List.append_assoc]; rfl) (by simp only [List.length_append, putL_length]) (by omega)
  have n6 : numAt s 6 2 = 0 := numAt_mid (pre := putL K 1 ++ (putL 0 1 ++ (putL (Z + d.size) 2 ++ putL 0 2))) (by rw [hl]; simp only [List.append_assoc]; rfl) (by simp only [List.length_append, putL_length]) (by omega)
  have b8 : by4 s 8 = hop := num_at1 (pre := putL K 1 ++ (putL 0 1 ++ (putL (Z + d.size) 2 ++ (putL 0 2 ++ putL 0 2)))) (by rw [hl]; simp only [List.append_assoc]; rfl) (by simp only [List.length_append, putL_length]) hh
  have b9 : by4 s 9 = pr := num_at1 (pre := putL K 1 ++ (putL 0 1 ++ (putL (Z + d.size) 2 ++ (putL 0 2 ++ (putL 0 2 ++ putL hop 1))))) (by rw [hl]; simp only [List.append_assoc]; rfl) (by simp only [List.length_append, putL_length]) hp
  have hP : (putL K 1 ++ (putL 0 1 ++ (putL (Z + d.size) 2 ++ (putL 0 2 ++ (putL 0 2 ++ (putL hop 1 ++ (putL pr 1 ++ putL C 2))))))).length = 12 := by simp only [List.length_append, putL_length]
  have hl2 : s.data.toList = (putL K 1 ++ (putL 0 1 ++ (putL (Z + d.size) 2 ++ (putL 0 2 ++ (putL 0 2 ++ (putL hop 1 ++ (putL pr 1 ++ putL C 2))))))) ++ (bytesA f.v f.b ++ (bytesA a.v a.b ++ (o4L al ++ d.data.toList))) := by rw [hl]; simp only [List.append_assoc]
  have hhead : (s.extract 0 Z).data.toList = putL K 1 ++ (putL 0 1 ++ (putL (Z + d.size) 2 ++ (putL 0 2 ++ (putL 0 2 ++ (putL hop 1 ++ putL pr 1))))) ++ (putL C 2 ++ (bytesA f.v f.b ++ (bytesA a.v a.b ++ o4L al))) :=
    cut_at (pre := []) (post := d.data.toList) (by rw [hl]; simp only [List.append_assoc, List.nil_append]) rfl (by simp only [List.length_append, putL_length]; omega)
  generalize putL K 1 ++ (putL 0 1 ++ (putL (Z + d.size) 2 ++ (putL 0 2 ++ (putL 0 2 ++ (putL hop 1 ++ (putL pr 1 ++ putL C 2)))))) = P at *
  have a12 : ad4 s 12 = f := ad4_mid hl2 hP sf
  have a16 : ad4 s 16 = a := ad4_mid (pre := P ++ bytesA f.v f.b) (post := o4L al ++ d.data.toList) (by rw [hl2]; simp only [List.append_assoc]) (by rw [List.length_append]; omega) sa
  have ho : (s.extract 20 Z).data.toList = o4L al := cut_at (pre := P ++ (bytesA f.v f.b ++ bytesA a.v a.b)) (post := d.data.toList) (by rw [hl2]; simp only [List.append_assoc]) (by simp only [List.length_append]; omega) (by omega)
  have hb : s.extract Z (Z + d.size) = d := cut_end (pre := P ++ (bytesA f.v f.b ++ (bytesA a.v a.b ++ o4L al))) (by rw [hl2]; simp only [List.append_assoc]) (by simp only [List.length_append]; omega) rfl
  have hn4 : n4 s = Z := by unfold n4; rw [b0]; omega
  have ha4 : a4 s = Z + d.size := by
    have : numAt s 2 2 = by4 s 2 * 256 + by4 s 3 := numAt_two (by omega)
    unfold a4; omega
  have hop4 : opt4s s = some al := by
    unfold opt4s
    rw [hn4, ho]
    cases al
    · exact opt4_nil false
    · unfold o4L
      rw [if_pos rfl, opt4_opt _ (by decide) (by decide) (by decide)]
      rw [show ([148, 4, 0, 0] : List UInt8).drop (4 : UInt8).toNat = [] from rfl, opt4_nil]; rfl
  have b67 : by4 s 6 = 0 ∧ by4 s 7 = 0 := by
    have : numAt s 6 2 = by4 s 6 * 256 + by4 s 7 := numAt_two (by omega)
    omega
  have herr : err4 s = 0 := by
    unfold err4 j2 j3 j4 j5 j6 j7 j8
    rw [hn4, ha4, hop4, b0, hhead, hsum, b67.1, b67.2, hz]
    rw [if_neg (by omega), if_neg (by simp; omega), if_neg (by simp; omega), if_neg (by simp), if_neg (by simp), if_neg (by simp), if_neg (by simp), if_neg (by simp)]
    rfl
  unfold pk4
  rw [if_pos herr, a12, a16, b8, b9, hop4, hn4, ha4, hb]
  rfl
theorem back6 (hh : hop < 256) (hp : pr < 256) (hp0 : 0 < pr) (hf : f.v = true) (ha : a.v = true) (hd : d.size ≤ 1400) : pk6 (w6B hop pr f a al d) = ⟨0, f, a, pr, hop, d, al⟩ := by
  have lf := V.v6_len hf
  have la := V.v6_len ha
  have hds := size_toList d
  obtain ⟨N, hN⟩ : ∃ N, (if al then 0 else pr) = N := ⟨_, rfl⟩
  obtain ⟨L, hL⟩ : ∃ L, (if al then 8 else 0) + d.size = L := ⟨_, rfl⟩
  have hlo : (o6L al pr).length + d.size = L := by rw [← hL]; cases al <;> simp [o6L, putL_length]
  have hLb : L ≤ 1408 := by rw [← hL]; split <;> omega
  have hNb : N < 256 := by rw [← hN]; split <;> omega
  have hl : (w6B hop pr f a al d).data.toList = putL 1610612736 4 ++ (putL L 2 ++ (putL N 1 ++ (putL hop 1 ++ (bytesA f.v f.b ++ (bytesA a.v a.b ++ (o6L al pr ++ d.data.toList)))))) := by
    unfold w6B w6L; rw [hN, hL]; simp [str]
  have hz : (w6B hop pr f a al d).size = 40 + L := by rw [← size_toList, hl]; simp only [List.length_append, putL_length]; omega
  generalize w6B hop pr f a al d = s at *
  have n0 : numAt s 0 4 = 1610612736 := numAt_mid (pre := []) hl rfl (by omega)
  have n4 : numAt s 4 2 = L := numAt_mid (pre := putL 1610612736 4) hl (by rw [putL_length]) (by omega)
  have b6' : by4 s 6 = N := num_at1 (pre := putL 1610612736 4 ++ putL L 2) (post := putL hop 1 ++ (bytesA f.v f.b ++ (bytesA a.v a.b ++ (o6L al pr ++ d.data.toList)))) (by rw [hl]; simp only [List.append_assoc]) (by simp only [List.length_append, putL_length]) hNb
  have b7' : by4 s 7 = hop := num_at1 (pre := putL 1610612736 4 ++ (putL L 2 ++ putL N 1)) (post := bytesA f.v f.b ++ (bytesA a.v a.b ++ (o6L al pr ++ d.data.toList))) (by rw [hl]; simp only [List.append_assoc]) (by simp only [List.length_append, putL_length]) hh
  have hP : (putL 1610612736 4 ++ (putL L 2 ++ (putL N 1 ++ putL hop 1))).length = 8 := by simp only [List.length_append, putL_length]
  have hl2 : s.data.toList = (putL 1610612736 4 ++ (putL L 2 ++ (putL N 1 ++ putL hop 1))) ++ (bytesA f.v f.b ++ (bytesA a.v a.b ++ (o6L al pr ++ d.data.toList))) := by rw [hl]; simp only [List.append_assoc]
  generalize putL 1610612736 4 ++ (putL L 2 ++ (putL N 1 ++ putL hop 1)) = P at *
  have a8 : adR (s.extract 8 24) = f := V.ad16_mid hl2 hP hf
  have a24 : adR (s.extract 24 40) = a := V.ad16_mid (pre := P ++ bytesA f.v f.b) (post := o6L al pr ++ d.data.toList) (by rw [hl2]; simp only [List.append_assoc]) (by rw [List.length_append]; omega) ha
  have hb : (b6 s).data.toList = o6L al pr ++ d.data.toList := by
    unfold b6 l6
    rw [n4]
    exact cut_at (pre := P ++ (bytesA f.v f.b ++ bytesA a.v a.b)) (post := []) (by rw [hl2]; simp only [List.append_assoc, List.append_nil]) (by simp only [List.length_append]; omega) (by rw [List.length_append]; omega)
  have hw : ¬ (w6 s / 268435456 ≠ 6) := by unfold w6; rw [n0]; decide
  have hl6 : ¬ (s.size < 40 + l6 s) := by unfold l6; rw [n4]; omega
  cases al
  · have hNp : N = pr := hN.symm
    have hbd : b6 s = d := data_inj (by rw [hb]; rfl)
    have herr : err6 s = 0 := by
      unfold err6
      rw [if_neg (by omega), if_neg hw, if_neg hl6, b6', if_neg (by omega)]
    unfold pk6
    rw [if_pos herr, b6', if_neg (by omega), a8, a24, b7', hbd, hNp]
  · have hN0 : N = 0 := hN.symm
    have hsb : (b6 s).size = 8 + d.size := by rw [← size_toList, hb]; simp [o6L, putL_length]; omega
    have hs : strip6 (b6 s) = ⟨pr, true, d, 0⟩ := by
      have hb2 : (b6 s).data.toList = putL pr 1 ++ ([0, 5, 2, 0, 0, 1, 0] ++ d.data.toList) := by rw [hb]; simp [o6L]
      have c0 : by4 (b6 s) 0 = pr := num_at1 (pre := []) hb2 rfl hp
      have c1 : by4 (b6 s) 1 = 0 := by
        unfold by4; rw [hb2, List.getElem?_append_right (by rw [putL_length]; omega), putL_length]; rfl
      have hm : m6 (b6 s) = 8 := by unfold m6; rw [c1]
      have ho : o6 (b6 s) = (true, 0) := by
        unfold o6 opt6s
        rw [hm, cut_at (i := 2) (j := 8) (pre := putL pr 1 ++ [0]) (m := [5, 2, 0, 0, 1, 0]) (post := d.data.toList) (by rw [hb2]; simp) (by simp [putL_length]) rfl]
        rw [opt6_next (by decide) (by decide) (by decide)]
        rw [show ([0, 0, 1, 0] : List UInt8).drop (2 : UInt8).toNat = [1, 0] from rfl, opt6_next (by decide) (by decide) (by decide)]
        rw [show ([] : List UInt8).drop (0 : UInt8).toNat = [] from rfl, opt6_nil]; rfl
      have hr : (b6 s).extract 8 (b6 s).size = d := by
        rw [hsb]
        exact cut_end (pre := putL pr 1 ++ [0, 5, 2, 0, 0, 1, 0]) (by rw [hb2]; simp) (by simp [putL_length]) rfl
      unfold strip6
      rw [if_neg (by rw [hm]; omega), ho, hm, hr, c0]
      simp only [if_neg (show ¬ (True ∧ pr = 0) by omega)]
      all_goals (simp <;> omega)
    have herr : err6 s = 0 := by
      unfold err6
      rw [if_neg (by omega), if_neg hw, if_neg hl6, b6', if_pos hN0, hs]
    unfold pk6
    rw [if_pos herr, b6', if_pos hN0, hs, a8, a24, b7']
theorem backE (hx : xs.length = 6) (hy : ys.length = 6) (hv : vl ≤ 4094) (ht : ty = 2048 ∨ ty = 34525) (hb : d.size ≤ 1500) :
    erE (wE xs ys vl ty d) = 0 ∧ tyE (wE xs ys vl ty d) = ty ∧ vlE (wE xs ys vl ty d) = vl ∧ bdE (wE xs ys vl ty d) = d ∧ (wE xs ys vl ty d).size ≤ d.size + 18 ∧ (∀ j, j < 6 → by4 (wE xs ys vl ty d) j = (xs[j]?.getD 0).toNat) := by
  have hds := size_toList d
  have hl : (wE xs ys vl ty d).data.toList = xs ++ (ys ++ (tgL vl ++ (putL ty 2 ++ d.data.toList))) := by unfold wE wEL; simp [str]
  have hlt : (tgL vl).length = if 0 < vl then 4 else 0 := by unfold tgL; split <;> simp [putL_length]
  have hz : (wE xs ys vl ty d).size = 14 + (tgL vl).length + d.size := by rw [← size_toList, hl]; simp only [List.length_append, putL_length]; omega
  generalize wE xs ys vl ty d = s at *
  have hj : ∀ j, j < 6 → by4 s j = (xs[j]?.getD 0).toNat := fun j h => by unfold by4; rw [hl, List.getElem?_append_left (by omega)]
  by_cases h0 : 0 < vl
  · have ht2 : tgL vl = putL 33024 2 ++ putL vl 2 := by unfold tgL; rw [if_pos h0]
    rw [ht2] at hl hz
    simp only [List.length_append, putL_length] at hz
    have n12 : numAt s 12 2 = 33024 := numAt_mid (pre := xs ++ ys) (post := putL vl 2 ++ (putL ty 2 ++ d.data.toList)) (by rw [hl]; simp only [List.append_assoc]) (by rw [List.length_append]; omega) (by omega)
    have n14 : numAt s 14 2 = vl := numAt_mid (pre := xs ++ (ys ++ putL 33024 2)) (post := putL ty 2 ++ d.data.toList) (by rw [hl]; simp only [List.append_assoc]) (by simp only [List.length_append, putL_length]; omega) (by omega)
    have n16 : numAt s 16 2 = ty := numAt_mid (pre := xs ++ (ys ++ (putL 33024 2 ++ putL vl 2))) (post := d.data.toList) (by rw [hl]; simp only [List.append_assoc]) (by simp only [List.length_append, putL_length]; omega) (by omega)
    have htg : tgE s = true := by unfold tgE; rw [n12]; rfl
    have hbd : s.extract 18 s.size = d := cut_end (pre := xs ++ (ys ++ (putL 33024 2 ++ (putL vl 2 ++ putL ty 2)))) (by rw [hl]; simp only [List.append_assoc]) (by simp only [List.length_append, putL_length]; omega) (by omega)
    refine ⟨?_, ?_, ?_, ?_, by omega, hj⟩
    · unfold erE; rw [if_neg (by omega), htg, if_pos rfl, if_neg (by omega), n14, n16, if_neg (by omega)]
    · unfold tyE; rw [htg, if_pos rfl, n16]
    · unfold vlE; rw [htg, if_pos rfl, n14]; omega
    · unfold bdE; rw [htg, if_pos rfl]; exact hbd
  · have ht2 : tgL vl = [] := by unfold tgL; rw [if_neg h0]
    rw [ht2] at hl hz
    simp only [List.length_nil, List.nil_append] at hz hl
    have n12 : numAt s 12 2 = ty := numAt_mid (pre := xs ++ ys) (post := d.data.toList) (by rw [hl]; simp only [List.append_assoc]) (by rw [List.length_append]; omega) (by omega)
    have htg : tgE s = false := by unfold tgE; rw [n12]; exact decide_eq_false (by omega)
    have hbd : s.extract 14 s.size = d := cut_end (pre := xs ++ (ys ++ putL ty 2)) (by rw [hl]; simp only [List.append_assoc]) (by simp only [List.length_append, putL_length]; omega) (by omega)
    refine ⟨?_, ?_, ?_, ?_, by omega, hj⟩
    · unfold erE; rw [if_neg (by omega), htg, if_neg (by decide), n12, if_neg (by omega)]
    · unfold tyE; rw [htg, if_neg (by decide), n12]
    · unfold vlE; rw [htg, if_neg (by decide)]; omega
    · unfold bdE; rw [htg, if_neg (by decide)]; exact hbd
end
end Go.Proofs.YtdnehjhijmeihaaGreat
