/-
  A good talk's bytes, and that they are read as it (printed by tools/gen-vt.py). No program in sight.
-/
import Derived.Test.YtealimfmognglaaVo
namespace Go.Proofs.Ytealimfmognglaa
set_option linter.unusedVariables false
set_option linter.unusedSimpArgs false

def srcB (L : List Ad) : List UInt8 := L.flatMap fun a => bytesA a.v a.b
section
variable {s : ByteArray} {pre post : List UInt8} {k n v : Nat} {a : Ad}
theorem numAt_mid (hs : s.data.toList = pre ++ (putL v n ++ post)) (hk : pre.length = k) (hv : v < 256 ^ n) : numAt s k n = v := by
  subst hk
  unfold numAt
  rw [hs, List.drop_left, List.take_append_of_le_length (by rw [putL_length]; omega), List.take_of_length_le (by rw [putL_length]; omega), numL_putL, Nat.mod_eq_of_lt hv]
theorem bytesA_take {v : Bool} {l : List UInt8} (h : l.length = 16) : bytesA v l = l.take (if v then 16 else 4) := by
  unfold bytesA
  cases v
  · rfl
  · rw [if_pos rfl, if_pos rfl, List.take_of_length_le (by omega)]
theorem v6_len (h : a.v = true) : (bytesA a.v a.b).length = 16 := by
  rw [h, bytesA_take a.h, List.length_take, a.h]
  rfl
theorem adOf_back {l : List UInt8} (hl : l.length = 16) {x : ByteArray} (hx : x.data.toList = bytesA true l) : adOf x = l := by
  have hsz := size_toList x
  unfold adOf
  rw [hx] at hsz ⊢
  rw [bytesA_take hl] at hsz ⊢
  simp only [if_true] at hsz ⊢
  rw [List.take_of_length_le (by omega)] at hsz ⊢
  rw [← hsz, hl]
  simp
theorem ad16_mid (hs : s.data.toList = pre ++ (bytesA a.v a.b ++ post)) (hk : pre.length = k) (ha : a.v = true) : ad16 s k = a := by
  have hl := v6_len ha
  subst hk
  have hx : (s.extract pre.length (pre.length + 16)).data.toList = bytesA a.v a.b := by
    rw [toList_extract, hs, List.drop_left, Nat.add_sub_cancel_left, List.take_append_of_le_length (by omega), List.take_of_length_le (by omega)]
  have hz : (s.extract pre.length (pre.length + 16)).size = 16 := by rw [← size_toList, hx, hl]
  unfold ad16 adR
  rw [dif_neg (by omega), dif_pos hz]
  refine Ad.ext2 ha.symm ?_
  rw [ha] at hx
  exact adOf_back a.h hx
theorem srcAt_mid : ∀ {L : List Ad} {pre : List UInt8} {k : Nat}, L.all (·.v) = true → s.data.toList = pre ++ (srcB L ++ post) → pre.length = k → srcAt s k L.length = L
  | [], _, _, _, _, _ => rfl
  | a :: L, pre, k, h, hs, hk => by
    simp only [List.all_cons, Bool.and_eq_true] at h
    have hs1 : s.data.toList = pre ++ (bytesA a.v a.b ++ (srcB L ++ post)) := by rw [hs]; simp [srcB]
    have hs2 : s.data.toList = (pre ++ bytesA a.v a.b) ++ (srcB L ++ post) := by rw [hs1, List.append_assoc]
    rw [List.length_cons, srcAt_succ, ad16_mid hs1 hk h.1, srcAt_mid (pre := pre ++ bytesA a.v a.b) h.2 hs2 (by rw [List.length_append, v6_len h.1, hk])]
theorem srcB_len : ∀ {L : List Ad}, L.all (·.v) = true → (srcB L).length = 16 * L.length
  | [], _ => rfl
  | a :: L, h => by
    simp only [List.all_cons, Bool.and_eq_true] at h
    have := srcB_len h.2
    have h1 := v6_len h.1
    simp only [srcB, List.flatMap_cons, List.length_append, List.length_cons] at *
    omega
theorem srcs6_all {L : List Ad} (h : srcs6 L = true) : L.all (·.v) = true ∧ L.length ≤ 64 := by
  unfold srcs6 at h
  rw [Bool.and_eq_true] at h
  exact ⟨h.1, by have := of_decide_eq_true h.2; omega⟩
theorem rSrcF_mid {L : List Ad} (h : srcs6 L = true) (hs : s.data.toList = pre ++ (srcB L ++ post)) (hk : pre.length = k) : rSrcF s k L.length = (L, 0) := by
  obtain ⟨h1, h2⟩ := srcs6_all h
  have hz : s.size = k + 16 * L.length + post.length := by rw [← size_toList, hs, List.length_append, List.length_append, srcB_len h1, hk]; omega
  unfold rSrcF
  rw [if_neg (by omega), if_neg (by omega), srcAt_mid h1 hs hk]
def recB (r : Rc) : List UInt8 := putL r.kind.toNat 1 ++ (putL 0 1 ++ (putL r.src.length 2 ++ (bytesA r.grp.v r.grp.b ++ srcB r.src)))
def recsB (R : List Rc) : List UInt8 := R.flatMap recB
theorem grp6_v (h : grp6 a = true) : a.v = true := by
  unfold grp6 at h
  rw [Bool.and_eq_true] at h
  exact h.1
theorem rcOk6_all {r : Rc} (h : rcOk6 r = true) : 1 ≤ r.kind ∧ r.kind ≤ 6 ∧ grp6 r.grp = true ∧ srcs6 r.src = true := by
  unfold rcOk6 at h
  simp only [Bool.and_eq_true, decide_eq_true_eq] at h
  exact ⟨h.1.1.1, h.1.1.2, h.1.2, h.2⟩
theorem recB_len {r : Rc} (h : rcOk6 r = true) : (recB r).length = 20 + 16 * r.src.length := by
  obtain ⟨_, _, h3, h4⟩ := rcOk6_all h
  unfold recB
  simp only [List.length_append, putL_length]
  rw [v6_len (grp6_v h3), srcB_len (srcs6_all h4).1]
  omega
theorem recsB_len : ∀ {R : List Rc}, R.all rcOk6 = true → (recsB R).length = recN 20 16 R
  | [], _ => rfl
  | r :: R, h => by
    simp only [List.all_cons, Bool.and_eq_true] at h
    have := recsB_len h.2
    have h1 := recB_len h.1
    simp only [recsB, List.flatMap_cons, List.length_append, recN] at *
    omega
theorem rRecL_mid {n : Nat} : ∀ {R : List Rc} {pre : List UInt8} {k f i : Nat} {X : List Rc}, R.all rcOk6 = true → s.data.toList = pre ++ recsB R → pre.length = k → R.length + i = n → R.length < f → rRecL s n f i k X = (X ++ R, 0)
  | [], pre, k, f, i, X, _, _, _, hi, _ => by rw [rRecL_end (by simp at hi; omega), List.append_nil]
  | r :: R, pre, k, 0, i, X, _, _, _, _, hf => by omega
  | r :: R, pre, k, f + 1, i, X, h, hs, hk, hi, hf => by
    simp only [List.all_cons, Bool.and_eq_true] at h
    obtain ⟨h1, h2, h3, h4⟩ := rcOk6_all h.1
    obtain ⟨g1, g2⟩ := srcs6_all h4
    have hl := recB_len h.1
    have hlr := recsB_len h.2
    have s0 : s.data.toList = pre ++ (recB r ++ recsB R) := by rw [hs]; rfl
    have s1 : s.data.toList = pre ++ (putL r.kind.toNat 1 ++ (putL 0 1 ++ (putL r.src.length 2 ++ (bytesA r.grp.v r.grp.b ++ (srcB r.src ++ recsB R))))) := by rw [s0]; unfold recB; simp only [List.append_assoc]
    have s2 : s.data.toList = (pre ++ putL r.kind.toNat 1) ++ (putL 0 1 ++ (putL r.src.length 2 ++ (bytesA r.grp.v r.grp.b ++ (srcB r.src ++ recsB R)))) := by rw [s1]; simp only [List.append_assoc]
    have s3 : s.data.toList = (pre ++ putL r.kind.toNat 1 ++ putL 0 1) ++ (putL r.src.length 2 ++ (bytesA r.grp.v r.grp.b ++ (srcB r.src ++ recsB R))) := by rw [s1]; simp only [List.append_assoc]
    have s4 : s.data.toList = (pre ++ putL r.kind.toNat 1 ++ putL 0 1 ++ putL r.src.length 2) ++ (bytesA r.grp.v r.grp.b ++ (srcB r.src ++ recsB R)) := by rw [s1]; simp only [List.append_assoc]
    have s5 : s.data.toList = (pre ++ putL r.kind.toNat 1 ++ putL 0 1 ++ putL r.src.length 2 ++ bytesA r.grp.v r.grp.b) ++ (srcB r.src ++ recsB R) := by rw [s1]; simp only [List.append_assoc]
    have s6 : s.data.toList = (pre ++ recB r) ++ recsB R := by rw [s0, List.append_assoc]
    have n1 : numAt s k 1 = r.kind.toNat := numAt_mid s1 hk (by omega)
    have n2 : numAt s (k + 1) 1 = 0 := numAt_mid s2 (by simp only [List.length_append, putL_length]; omega) (by omega)
    have n3 : numAt s (k + 2) 2 = r.src.length := numAt_mid s3 (by simp only [List.length_append, putL_length]; omega) (by omega)
    have n4 : ad16 s (k + 4) = r.grp := ad16_mid s4 (by simp only [List.length_append, putL_length]; omega) (grp6_v h3)
    have n5 : rSrcF s (k + 20) r.src.length = (r.src, 0) := rSrcF_mid h4 s5 (by simp only [List.length_append, putL_length, v6_len (grp6_v h3)]; omega)
    have hz : s.size = k + (20 + 16 * r.src.length) + (recsB R).length := by rw [← size_toList, s0, List.length_append, List.length_append, hl, hk]; omega
    have e1 : endAt s k = k + (20 + 16 * r.src.length) := by unfold endAt; rw [n2, n3]; omega
    have e2 : okAt s k = true := by
      unfold okAt
      rw [n1, n4, h3, decide_eq_true (show 0 < r.kind.toNat by omega), decide_eq_true (show r.kind.toNat < 7 by omega)]
      rfl
    have e3 : recAt s k = r := by
      unfold recAt
      rw [n1, n3, n4, n5]
      obtain ⟨kd, g, l⟩ := r
      simp only at h1 ⊢
      rw [Int.toNat_of_nonneg (by omega)]
    simp only [List.length_cons] at hi hf
    rw [rRecL, if_pos (by omega), if_neg (by omega), n3, n5, if_neg (by simp), if_neg (by rw [e1]; omega), e2, if_pos rfl, e3, e1, rRecL_mid (R := R) (pre := pre ++ recB r) h.2 s6 (by rw [List.length_append, hl, hk]) (by omega) (by omega), List.append_assoc]
    rfl
end
/-! ### a talk's bytes -/
noncomputable def flagN (T : Tk) : Nat := T.rob.toNat + (if T.quiet then 8 else 0)
noncomputable def respN (T : Tk) : Nat := if T.kind = 1 ∧ T.ver = 2 then cod16 T.resp else T.resp.toNat
noncomputable def restL (T : Tk) : List UInt8 :=
  if T.kind = 2 ∧ T.ver = 2 then putL 0 2 ++ (putL T.recs.length 2 ++ recsB T.recs)
  else if T.kind = 1 ∧ T.ver = 2 then putL (respN T) 2 ++ (putL 0 2 ++ (bytesA T.grp.v T.grp.b ++ (putL (flagN T) 1 ++ (putL (cod8 T.every) 1 ++ (putL T.src.length 2 ++ srcB T.src)))))
  else putL (respN T) 2 ++ (putL 0 2 ++ bytesA T.grp.v T.grp.b)
def kindN (T : Tk) : Nat := if T.kind = 3 then 132 else if T.kind = 2 then (if T.ver = 1 then 131 else 143) else 130
def headL (T : Tk) : List UInt8 := putL (kindN T) 1 ++ putL 0 1
noncomputable def psL (f t : Ad) (T : Tk) : List UInt8 := (psB f t (4 + (restL T).length)).data.toList
noncomputable def sumN (f t : Ad) (T : Tk) : Nat := 65535 - foldN (wsum (psL f t T ++ (headL T ++ restL T)))
noncomputable def writeT (f t : Ad) (T : Tk) : ByteArray := str (headL T ++ (putL (sumN f t T) 2 ++ restL T))
theorem fold_check (n : Nat) : foldN (n + (65535 - foldN n)) = 65535 := by
  have h1 := foldN_le n
  have h := foldN_add n (65535 - foldN n)
  rw [← h, foldN_small (by omega)]
  omega
theorem good6_cases {T : Tk} (h : good6 T = true) :
    (∃ r g, T = ⟨true, 1, 1, r, g, false, 0, 0, [], []⟩ ∧ 0 ≤ r ∧ r < 65536 ∧ (zero6 g = true ∨ grp6 g = true)) ∨
    (∃ g k, T = ⟨true, 1, k, 0, g, false, 0, 0, [], []⟩ ∧ grp6 g = true ∧ (k = 2 ∨ k = 3)) ∨
    (∃ R, T = ⟨true, 2, 2, 0, Ad.z, false, 0, 0, [], R⟩ ∧ R.all rcOk6 = true ∧ R.length < 65) ∨
    (∃ resp g q rob ev src, T = ⟨true, 2, 1, resp, g, q, rob, ev, src, []⟩ ∧ (valN 4096 (cod16 resp) : Int) = resp ∧ (valN 16 (cod8 ev) : Int) = ev ∧ 0 ≤ rob ∧ rob < 8 ∧ srcs6 src = true ∧ (zero6 g = true ∨ grp6 g = true) ∧ (zero6 g = false ∨ src = [])) := by
  obtain ⟨v6, ver, kind, resp, g, quiet, rob, every, src, recs⟩ := T
  unfold good6 at h
  simp only at h
  split at h
  · cases h
  rename_i h1
  split at h
  · cases h
  rename_i h2
  have a1 : v6 = true ∧ 1 ≤ ver ∧ ver ≤ 2 ∧ 1 ≤ kind ∧ kind ≤ 3 ∧ ¬(ver = 2 ∧ kind = 3) := by
    simp at h1
    obtain ⟨⟨⟨⟨⟨h1, g1⟩, g2⟩, g3⟩, g4⟩, g5⟩ := h1
    refine ⟨h1, ?_, ?_, ?_, ?_, ?_⟩ <;> first | exact h1 | omega
  obtain ⟨rfl, v1, v2, k1, k2, nk⟩ := a1
  clear h1
  have hx : ¬(ver = 2 ∧ kind = 1) → quiet = false ∧ rob = 0 ∧ every = 0 ∧ src = [] := fun hn => by
    have e : (!(ver == 2 && kind == 1)) = true := by
      simp
      omega
    rw [e] at h2
    simp at h2
    exact ⟨h2.1.1.1.1, h2.1.1.1.2, h2.1.1.2, h2.1.2⟩
  have hr : kind ≠ 1 → resp = 0 := fun hn => by
    have e : (kind != 1) = true := by simpa using hn
    rw [e] at h2
    simp at h2
    exact h2.2
  clear h2
  by_cases e22 : ver = 2 ∧ kind = 2
  · obtain ⟨rfl, rfl⟩ := e22
    obtain ⟨rfl, rfl, rfl, rfl⟩ := hx (by omega)
    obtain rfl := hr (by omega)
    simp at h
    obtain ⟨hR, ⟨⟨hg1, hg2⟩, hl⟩, _⟩ := h
    have hg : g = Ad.z := Ad.ext2 hg1 (show g.b = zero16 by unfold zeroA at hg2; simpa using hg2)
    subst hg
    exact .inr (.inr (.inl ⟨recs, rfl, by simpa using hR, hl⟩))
  rw [if_neg (by simpa using e22)] at h
  split at h
  · cases h
  rename_i h3
  have hrec : recs = [] := by simpa using h3
  subst hrec
  by_cases ek : kind = 1
  rotate_left
  · rw [if_pos (by simp; omega)] at h
    obtain ⟨rfl, rfl, rfl, rfl⟩ := hx (by omega)
    obtain rfl := hr (by omega)
    obtain rfl : ver = 1 := by omega
    exact .inr (.inl ⟨g, kind, rfl, h, by omega⟩)
  subst ek
  rw [if_neg (by simp)] at h
  split at h
  · cases h
  rename_i h4
  have hg : (zero6 g = true ∨ grp6 g = true) ∧ 0 ≤ resp := by
    simp at h4
    refine ⟨?_, by omega⟩
    cases hz : zero6 g
    · exact .inr (h4.1 hz)
    · exact .inl rfl
  by_cases w1 : ver = 1
  · subst w1
    obtain ⟨rfl, rfl, rfl, rfl⟩ := hx (by omega)
    simp at h
    exact .inl ⟨resp, g, rfl, hg.2, h, hg.1⟩
  obtain rfl : ver = 2 := by omega
  rw [if_neg (by simp)] at h
  simp at h
  obtain ⟨⟨⟨⟨⟨⟨q1, q2⟩, q3⟩, q4⟩, q5⟩, q6⟩, q7⟩ := h
  exact .inr (.inr (.inr ⟨resp, g, quiet, rob, every, src, rfl, q1, q3, q4, q5, q6, hg.1, by rcases q7 with q7 | q7; exact .inl q7; exact .inr q7⟩))
section
variable {f t : Ad}
theorem back_len {T : Tk} : (headL T).length = 2 := by unfold headL; simp [putL_length]
theorem ps_even {n : Nat} : (psB f t n).data.toList.length % 2 = 0 := by
  have h1 := f.h
  have h2 := t.h
  unfold psB pseudoB
  split
  · simp only [toList_append, str_toList, List.length_append, putL_length, h1, h2]
  · simp only [toList_append, str_toList, List.length_append, putL_length, List.length_take, h1, h2]
    rfl
theorem write_list {T : Tk} : (writeT f t T).data.toList = headL T ++ (putL (sumN f t T) 2 ++ restL T) := by simp [writeT, str]
theorem write_size {T : Tk} : (writeT f t T).size = 4 + (restL T).length := by
  rw [← size_toList, write_list]
  simp only [List.length_append, putL_length, back_len]
  omega
theorem back_sum {T : Tk} : sumOk6 f t (writeT f t T) = true := by
  unfold sumOk6
  rw [write_size, write_list, show (psB f t (4 + (restL T).length)).data.toList = psL f t T from rfl]
  have hev : (psL f t T).length % 2 = 0 := ps_even
  have hf := foldN_le (wsum (psL f t T ++ (headL T ++ restL T)))
  have w2 : wsum (putL (sumN f t T) 2) = sumN f t T := by rw [wsum_two _ (by rw [putL_length]), numL_putL, Nat.mod_eq_of_lt (by unfold sumN; omega)]
  rw [wsum_append (by omega), wsum_append (by rw [back_len]), wsum_append (by rw [putL_length]), w2]
  have h2 : wsum (psL f t T ++ (headL T ++ restL T)) = wsum (psL f t T) + (wsum (headL T) + wsum (restL T)) := by rw [wsum_append (by omega), wsum_append (by rw [back_len])]
  have := fold_check (wsum (psL f t T ++ (headL T ++ restL T)))
  have e2 : wsum (psL f t T) + (wsum (headL T) + (sumN f t T + wsum (restL T))) = wsum (psL f t T ++ (headL T ++ restL T)) + (65535 - foldN (wsum (psL f t T ++ (headL T ++ restL T)))) := by unfold sumN; omega
  rw [e2, this]
  rfl
set_option maxHeartbeats 1000000 in
/-- whatever the addresses are by which it is read, if the sum is right -/
theorem back_read {T : Tk} (h : good6 T = true) : rReadT (writeT f t T) = (T, 0) ∧ 8 ≤ (writeT f t T).size := by
  have hs : (writeT f t T).data.toList = putL (kindN T) 1 ++ (putL 0 1 ++ (putL (sumN f t T) 2 ++ restL T)) := by rw [write_list]; unfold headL; simp only [List.append_assoc]
  have hz := write_size (f := f) (t := t) (T := T)
  generalize writeT f t T = s at *
  have s0 : s.data.toList = [] ++ (putL (kindN T) 1 ++ (putL 0 1 ++ (putL (sumN f t T) 2 ++ restL T))) := hs
  have s4 : s.data.toList = (putL (kindN T) 1 ++ putL 0 1 ++ putL (sumN f t T) 2) ++ restL T := by rw [hs]; simp only [List.append_assoc]
  have l4 : (putL (kindN T) 1 ++ putL 0 1 ++ putL (sumN f t T) 2).length = 4 := by simp only [List.length_append, putL_length]
  have hk : kindN T < 256 := by unfold kindN; split <;> (try split) <;> (try split) <;> omega
  have n0 : numAt s 0 1 = kindN T := numAt_mid s0 rfl (by omega)
  generalize putL (kindN T) 1 ++ putL 0 1 ++ putL (sumN f t T) 2 = P at *
  rcases good6_cases h with ⟨r, g, rfl, r1, r2, hg⟩ | ⟨g, k, rfl, hg, hkv⟩ | ⟨R, rfl, hR, hl⟩ | ⟨resp, g, q, rob, ev, src, rfl, h1, h2, h3, h4, h5, hg, h6⟩
  · have gv : g.v = true := by
      rcases hg with hg | hg
      · unfold zero6 at hg; simp at hg; exact hg.1
      · exact grp6_v hg
    have er : restL ⟨true, 1, 1, r, g, false, 0, 0, [], []⟩ = putL r.toNat 2 ++ (putL 0 2 ++ bytesA g.v g.b) := by simp [restL, respN]
    have ek : kindN ⟨true, 1, 1, r, g, false, 0, 0, [], []⟩ = 130 := by simp [kindN]
    rw [ek] at n0
    rw [er] at hz s4
    simp only [List.length_append, putL_length, v6_len gv] at hz
    have ea : ad16 s 8 = g := ad16_mid (pre := P ++ putL r.toNat 2 ++ putL 0 2) (post := []) (by rw [s4]; simp only [List.append_assoc, List.append_nil]) (by simp only [List.length_append, putL_length]; omega) gv
    have n4 : numAt s 4 2 = r.toNat := numAt_mid (post := putL 0 2 ++ bytesA g.v g.b) s4 l4 (by omega)
    refine ⟨?_, by omega⟩
    unfold rReadT rOneF
    have hq : ¬ (grp6 g || (true && zero6 g)) = false := by rcases hg with hg | hg <;> simp [hg]
    have e5 : (numAt s 0 1 == 130) = true := by simpa using n0
    rw [if_pos (.inl n0), if_neg (by omega), if_neg (by omega), ea, e5, if_neg hq, if_neg (by omega), if_pos (by omega), n4, Int.toNat_of_nonneg (by omega)]
  · have gv := grp6_v hg
    have er : restL ⟨true, 1, k, 0, g, false, 0, 0, [], []⟩ = putL 0 2 ++ (putL 0 2 ++ bytesA g.v g.b) := by
      unfold restL respN
      simp only
      rw [if_neg (by omega), if_neg (by omega), if_neg (by omega)]
      rfl
    rw [er] at hz s4
    simp only [List.length_append, putL_length, v6_len gv] at hz
    have ea : ad16 s 8 = g := ad16_mid (pre := P ++ putL 0 2 ++ putL 0 2) (post := []) (by rw [s4]; simp only [List.append_assoc, List.append_nil]) (by simp only [List.length_append, putL_length]; omega) gv
    refine ⟨?_, by omega⟩
    rcases hkv with rfl | rfl
    · have ek : kindN ⟨true, 1, 2, 0, g, false, 0, 0, [], []⟩ = 131 := by simp [kindN]
      rw [ek] at n0
      unfold rReadT rOneF
      rw [if_pos (.inr (.inl n0)), if_neg (by omega), if_neg (by omega), ea, hg, if_neg (by simp), if_pos (by omega), n0]
      rfl
    · have ek : kindN ⟨true, 1, 3, 0, g, false, 0, 0, [], []⟩ = 132 := by simp [kindN]
      rw [ek] at n0
      unfold rReadT rOneF
      rw [if_pos (.inr (.inr n0)), if_neg (by omega), if_neg (by omega), ea, hg, if_neg (by simp), if_pos (by omega), n0]
      rfl
  · have er : restL ⟨true, 2, 2, 0, Ad.z, false, 0, 0, [], R⟩ = putL 0 2 ++ (putL R.length 2 ++ recsB R) := by simp [restL]
    have ek : kindN ⟨true, 2, 2, 0, Ad.z, false, 0, 0, [], R⟩ = 143 := by simp [kindN]
    rw [ek] at n0
    rw [er] at hz s4
    simp only [List.length_append, putL_length] at hz
    refine ⟨?_, by omega⟩
    have n6 : numAt s 6 2 = R.length := numAt_mid (pre := P ++ putL 0 2) (post := recsB R) (by rw [s4]; simp only [List.append_assoc]) (by simp only [List.length_append, putL_length]; omega) (by omega)
    have e8 := rRecL_mid (s := s) (n := R.length) (R := R) (pre := P ++ putL 0 2 ++ putL R.length 2) (k := 8) (f := 65) (i := 0) (X := []) hR (by rw [s4]; simp only [List.append_assoc]) (by simp only [List.length_append, putL_length]; omega) (by omega) (by omega)
    unfold rReadT rRecF
    rw [n0, if_neg (by omega), if_pos rfl, n6, if_neg (by omega), e8]
    rfl
  · have gv : g.v = true := by
      rcases hg with hg | hg
      · unfold zero6 at hg; simp at hg; exact hg.1
      · exact grp6_v hg
    have er : restL ⟨true, 2, 1, resp, g, q, rob, ev, src, []⟩ = putL (cod16 resp) 2 ++ (putL 0 2 ++ (bytesA g.v g.b ++ (putL (flagN ⟨true, 2, 1, resp, g, q, rob, ev, src, []⟩) 1 ++ (putL (cod8 ev) 1 ++ (putL src.length 2 ++ srcB src))))) := by simp [restL, respN]
    have ek : kindN ⟨true, 2, 1, resp, g, q, rob, ev, src, []⟩ = 130 := by simp [kindN]
    have ef : flagN ⟨true, 2, 1, resp, g, q, rob, ev, src, []⟩ = rob.toNat + (if q then 8 else 0) := rfl
    have hf : flagN ⟨true, 2, 1, resp, g, q, rob, ev, src, []⟩ < 16 := by rw [ef]; split <;> omega
    generalize flagN ⟨true, 2, 1, resp, g, q, rob, ev, src, []⟩ = fl at *
    have c1 := cod16_le resp
    have c2 := cod8_le ev
    obtain ⟨_, hl⟩ := srcs6_all h5
    rw [ek] at n0
    rw [er] at hz s4
    have lg := v6_len gv
    simp only [List.length_append, putL_length, lg] at hz
    have n4 : numAt s 4 2 = cod16 resp := numAt_mid (post := putL 0 2 ++ (bytesA g.v g.b ++ (putL fl 1 ++ (putL (cod8 ev) 1 ++ (putL src.length 2 ++ srcB src))))) s4 l4 (by omega)
    have ea : ad16 s 8 = g := ad16_mid (pre := P ++ putL (cod16 resp) 2 ++ putL 0 2) (post := putL fl 1 ++ (putL (cod8 ev) 1 ++ (putL src.length 2 ++ srcB src))) (by rw [s4]; simp only [List.append_assoc]) (by simp only [List.length_append, putL_length]; omega) gv
    have n24 : numAt s 24 1 = fl := numAt_mid (pre := P ++ putL (cod16 resp) 2 ++ putL 0 2 ++ bytesA g.v g.b) (post := putL (cod8 ev) 1 ++ (putL src.length 2 ++ srcB src)) (by rw [s4]; simp only [List.append_assoc]) (by simp only [List.length_append, putL_length]; omega) (by omega)
    have n25 : numAt s 25 1 = cod8 ev := numAt_mid (pre := P ++ putL (cod16 resp) 2 ++ putL 0 2 ++ bytesA g.v g.b ++ putL fl 1) (post := putL src.length 2 ++ srcB src) (by rw [s4]; simp only [List.append_assoc]) (by simp only [List.length_append, putL_length]; omega) (by omega)
    have n26 : numAt s 26 2 = src.length := numAt_mid (pre := P ++ putL (cod16 resp) 2 ++ putL 0 2 ++ bytesA g.v g.b ++ putL fl 1 ++ putL (cod8 ev) 1) (post := srcB src) (by rw [s4]; simp only [List.append_assoc]) (by simp only [List.length_append, putL_length]; omega) (by omega)
    have n28 : rSrcF s 28 src.length = (src, 0) := rSrcF_mid (post := []) (pre := P ++ putL (cod16 resp) 2 ++ putL 0 2 ++ bytesA g.v g.b ++ putL fl 1 ++ putL (cod8 ev) 1 ++ putL src.length 2) h5 (by rw [s4]; simp only [List.append_assoc, List.append_nil]) (by simp only [List.length_append, putL_length]; omega)
    refine ⟨?_, by omega⟩
    have hq : ¬ (grp6 g || (true && zero6 g)) = false := by rcases hg with hg | hg <;> simp [hg]
    have hzz : ¬ (zero6 g = true ∧ 0 < src.length) := fun hh => by
      rcases h6 with h6 | h6
      · rw [h6] at hh; simp at hh
      · rw [h6] at hh
        simp at hh
    have eq1 : decide (fl / 8 % 2 = 1) = q := by rw [ef]; cases q <;> simp <;> omega
    have eq2 : ((fl % 8 : Nat) : Int) = rob := by rw [ef]; cases q <;> simp <;> omega
    have e5 : (numAt s 0 1 == 130) = true := by simpa using n0
    unfold rReadT rOneF
    rw [if_pos (.inl n0), if_neg (by omega), if_neg (by omega), ea, e5, if_neg hq, if_neg (by omega), if_neg (by omega), n24, n25, n26, n28, n4, if_neg hzz, eq1, eq2, h1, h2]
theorem back_all {T : Tk} (h : good6 T = true) : rReadF f t (writeT f t T) = (T, 0) := by
  obtain ⟨e, h8⟩ := back_read (f := f) (t := t) h
  unfold rReadF
  rw [if_neg (by omega), if_neg (by rw [back_sum]; simp), e, if_pos rfl]
/-- between other addresses -/
theorem back_away {T : Tk} {o : Ad} (h : good6 T = true) : rReadF f o (writeT f t T) = (T, 0) ∨ rReadF f o (writeT f t T) = (Tk.z, 4) := by
  obtain ⟨e, h8⟩ := back_read (f := f) (t := t) h
  unfold rReadF
  rw [if_neg (by omega), e, if_pos rfl]
  cases sumOk6 f o (writeT f t T)
  · exact .inr rfl
  · exact .inl rfl
theorem restL_le {T : Tk} (h : good6 T = true) : (restL T).length ≤ 90000 := by
  rcases good6_cases h with ⟨r, g, rfl, r1, r2, hg⟩ | ⟨g, k, rfl, hg, hkv⟩ | ⟨R, rfl, hR, hl⟩ | ⟨resp, g, q, rob, ev, src, rfl, h1, h2, h3, h4, h5, hg, h6⟩
  · have gv : g.v = true := by
      rcases hg with hg | hg
      · unfold zero6 at hg; simp at hg; exact hg.1
      · exact grp6_v hg
    simp [restL, putL_length, v6_len gv]
  · have gv := grp6_v hg
    unfold restL
    simp only
    rw [if_neg (by omega), if_neg (by omega)]
    simp [putL_length, v6_len gv]
  · have := recN_le (k := 20) (s := 16) rcOk6_len _ hR
    have h2 := recsB_len hR
    simp [restL, putL_length]
    omega
  · have gv : g.v = true := by
      rcases hg with hg | hg
      · unfold zero6 at hg; simp at hg; exact hg.1
      · exact grp6_v hg
    obtain ⟨q1, q2⟩ := srcs6_all h5
    have := srcB_len q1
    simp [restL, putL_length, v6_len gv]
    omega
end
end Go.Proofs.Ytealimfmognglaa
