/-
  Joined texts: Gp, Gd, Ge.
-/
import Derived.Test.YtdnehjhijmeihaaGreatQGc
import Derived.Test.YtdnehjhijmeihaaGreatQSl
import Derived.Test.YtdnehjhijmeihaaGreatQGa
namespace Go.Proofs.YtdnehjhijmeihaaGreat
open Go.ChangeShapes Go.WideShapes Go.ChangeAt Go.RowKit
set_option linter.unusedVariables false
set_option linter.unusedSimpArgs false
set_option maxRecDepth 20000
attribute [local irreducible] wpList
section
variable {w : World} {sp rp : Option Addr} {sc rc : Nat} {T : Tk}
set_option maxRecDepth 20000 in
set_option maxHeartbeats 4000000 in
theorem igood_bad {v6 quiet : Bool} {ver kind resp rob every : Int} {G : List Value} (oG : OkA G 17) {n m : Nat} (h : v6 = true ∨ (ver ≠ 1 ∧ ver ≠ 2 ∧ ver ≠ 3) ∨ (kind ≠ 1 ∧ kind ≠ 2 ∧ kind ≠ 3) ∨ (ver ≠ 2 ∧ kind = 3)) : Gives Tryz.prog 133 #[.agg (fls [.one (.bool v6), .one (.int .i64 ver), .one (.int .i64 kind), .one (.int .i64 resp), .many G 17, .one (.bool quiet), .one (.int .i64 rob), .one (.int .i64 every), .one (.slice sp n sc), .one (.slice rp m rc)]).toArray] w (.bool false) := by
  refine Gives.of ?_
  have hH := Hp.refl w
  by_cases h1 : v6 = true
  · subst h1
    clear h
    go_enter Tryz.func133, Tryz.ntmps133
    go_wp2_with (refine st ?_; clear hH; first | intro W g hH | intro W hH)
    go_ret
    exact ⟨rfl, hH.below⟩
  have h1 : v6 = false := by simpa using h1
  subst h1
  by_cases h2 : ver ≠ 1 ∧ ver ≠ 2 ∧ ver ≠ 3
  · obtain ⟨a1, a2, a3⟩ := h2
    have d1 : (ver == 1) = false := by simpa using a1
    have d2 : (ver == 2) = false := by simpa using a2
    have d3 : (ver == 3) = false := by simpa using a3
    clear h a1 a2 a3
    go_enter Tryz.func133, Tryz.ntmps133
    go_wp2_with (refine st ?_; clear hH; first | intro W g hH | intro W hH)
    go_ret
    exact ⟨rfl, hH.below⟩
  by_cases h3 : kind ≠ 1 ∧ kind ≠ 2 ∧ kind ≠ 3
  · obtain ⟨a1, a2, a3⟩ := h3
    have d1 : (kind == 1) = false := by simpa using a1
    have d2 : (kind == 2) = false := by simpa using a2
    have d3 : (kind == 3) = false := by simpa using a3
    clear h a1 a2 a3
    rcases (show ver = 1 ∨ ver = 2 ∨ ver = 3 by omega) with rfl | rfl | rfl
    all_goals
      clear h2
      go_enter Tryz.func133, Tryz.ntmps133
      go_wp2_with (refine st ?_; clear hH; first | intro W g hH | intro W hH)
      go_ret
      exact ⟨rfl, hH.below⟩
  have h4 : ver ≠ 2 ∧ kind = 3 := by
    rcases h with h | h | h | h
    · cases h
    · exact absurd h h2
    · exact absurd h h3
    · exact h
  obtain ⟨a1, rfl⟩ := h4
  rcases (show ver = 1 ∨ ver = 3 by omega) with rfl | rfl
  all_goals
    clear h h2 h3 a1
    go_enter Tryz.func133, Tryz.ntmps133
    go_wp2_with (refine st ?_; clear hH; first | intro W g hH | intro W hH)
    go_ret
    exact ⟨rfl, hH.below⟩
theorem bne_not {α : Type} [BEq α] (a b : α) : (a != b) = !(a == b) := rfl
theorem lenB (n : Nat) : decide (0 < n) = !(n == 0) := by cases n <;> rfl
set_option maxHeartbeats 4000000 in
theorem igood_any (hA : AdsAt w sp T.src) (hR : RcsAt w rp T.recs) : Gives Tryz.prog 133 #[.agg (fls (tkS T sp sc rp rc)).toArray] w (.bool (good4 T)) := by
  obtain ⟨v6, ver, kind, resp, g, quiet, rob, every, src, recs⟩ := T
  have hn := hA.1
  have hm := hR.1
  unfold tkS
  simp only at *
  by_cases hb : v6 = true ∨ (ver ≠ 1 ∧ ver ≠ 2 ∧ ver ≠ 3) ∨ (kind ≠ 1 ∧ kind ≠ 2 ∧ kind ≠ 3) ∨ (ver ≠ 2 ∧ kind = 3)
  · have e : good4 ⟨v6, ver, kind, resp, g, quiet, rob, every, src, recs⟩ = false := by
      unfold good4
      simp only
      rcases hb with rfl | hb | hb | ⟨hb, rfl⟩
      · rfl
      · rw [if_pos (by simp; omega)]
      · rw [if_pos (by simp; omega)]
      · have : (ver == 2) = false := by simpa using hb
        split
        · rfl
        split
        · rfl
        split
        · rfl
        simp [this]
    rw [e]
    exact igood_bad (adL_ok g) hb
  obtain rfl : v6 = false := by simp at hb; exact hb.1
  rcases (show ver = 1 ∨ ver = 2 ∨ ver = 3 by omega) with rfl | rfl | rfl
  · rcases (show kind = 1 ∨ kind = 2 by omega) with rfl | rfl
    · have e : good4 ⟨false, 1, 1, resp, g, quiet, rob, every, src, recs⟩ = bareV false false false false ⟨false, 1, 1, resp, g, quiet, rob, every, src, recs⟩ := by
        unfold good4 bareV
        simp only [lenB, bne_not]
        cases quiet <;> cases (rob == 0) <;> cases (every == 0) <;> cases (src.length == 0) <;> cases (recs.length == 0) <;> cases (resp == 0) <;> cases (g == Ad.z) <;> rfl
      rw [e]
      exact igood_11 (ver := 0) (kind := 0) hn hm
    · have e : good4 ⟨false, 1, 2, resp, g, quiet, rob, every, src, recs⟩ = (bareV false true false false ⟨false, 1, 2, resp, g, quiet, rob, every, src, recs⟩ && grp4 g) := by
        unfold good4 bareV
        simp only [lenB, bne_not]
        cases quiet <;> cases (rob == 0) <;> cases (every == 0) <;> cases (src.length == 0) <;> cases (recs.length == 0) <;> cases (resp == 0) <;> cases (grp4 g) <;> rfl
      rw [e]
      exact igood_12 (ver := 0) (kind := 0) hn hm
  · rcases (show kind = 1 ∨ kind = 2 ∨ kind = 3 by omega) with rfl | rfl | rfl
    · have e : good4 ⟨false, 2, 1, resp, g, quiet, rob, every, src, recs⟩ = (bareV true true false false ⟨false, 2, 1, resp, g, quiet, rob, every, src, recs⟩ && decide (1 ≤ resp) && decide (resp ≤ 255) && (g == Ad.z || grp4 g)) := by
        unfold good4 bareV
        simp only [lenB, bne_not]
        rw [show decide (1 ≤ resp) = decide (0 < resp) from decide_eq_decide.2 (by omega), show decide (resp ≤ 255) = decide (resp < 256) from decide_eq_decide.2 (by omega)]
        cases quiet <;> cases (rob == 0) <;> cases (every == 0) <;> cases (src.length == 0) <;> cases (recs.length == 0) <;> cases decide (0 < resp) <;> cases decide (resp < 256) <;> cases (g == Ad.z) <;> cases (grp4 g) <;> rfl
      rw [e]
      exact igood_21 (ver := 0) (kind := 0) hn hm
    · have e : good4 ⟨false, 2, 2, resp, g, quiet, rob, every, src, recs⟩ = (bareV false true false false ⟨false, 2, 2, resp, g, quiet, rob, every, src, recs⟩ && grp4 g) := by
        unfold good4 bareV
        simp only [lenB, bne_not]
        cases quiet <;> cases (rob == 0) <;> cases (every == 0) <;> cases (src.length == 0) <;> cases (recs.length == 0) <;> cases (resp == 0) <;> cases (grp4 g) <;> rfl
      rw [e]
      exact igood_22 (ver := 0) (kind := 0) hn hm
    · have e : good4 ⟨false, 2, 3, resp, g, quiet, rob, every, src, recs⟩ = (bareV false true false false ⟨false, 2, 3, resp, g, quiet, rob, every, src, recs⟩ && grp4 g) := by
        unfold good4 bareV
        simp only [lenB, bne_not]
        cases quiet <;> cases (rob == 0) <;> cases (every == 0) <;> cases (src.length == 0) <;> cases (recs.length == 0) <;> cases (resp == 0) <;> cases (grp4 g) <;> rfl
      rw [e]
      exact igood_23 (ver := 0) (kind := 0) hn hm
  · rcases (show kind = 1 ∨ kind = 2 by omega) with rfl | rfl
    · have e : good4 ⟨false, 3, 1, resp, g, quiet, rob, every, src, recs⟩ = (bareV true true true false ⟨false, 3, 1, resp, g, quiet, rob, every, src, recs⟩ && ex8 resp && ex8 every && decide (0 ≤ rob) && decide (rob ≤ 7) && (g == Ad.z || grp4 g) && srcs4 src && !(g == Ad.z && decide (0 < src.length))) := by
        unfold good4 bareV
        simp only [lenB, bne_not]
        rw [show decide (rob ≤ 7) = decide (rob < 8) from decide_eq_decide.2 (by omega)]
        cases (recs.length == 0) <;> cases (src.length == 0) <;> cases ex8 resp <;> cases ex8 every <;> cases decide (0 ≤ rob) <;> cases decide (rob < 8) <;> cases srcs4 src <;> cases (g == Ad.z) <;> cases (grp4 g) <;> rfl
      rw [e]
      exact igood_31 (ver := 0) (kind := 0) hn hm hA
    · have e : good4 ⟨false, 3, 2, resp, g, quiet, rob, every, src, recs⟩ = (bareV false false false true ⟨false, 3, 2, resp, g, quiet, rob, every, src, recs⟩ && recs4 recs) := by
        unfold good4 bareV recs4
        simp only [lenB, bne_not]
        cases quiet <;> cases (rob == 0) <;> cases (every == 0) <;> cases (src.length == 0) <;> cases (resp == 0) <;> cases (g == Ad.z) <;> cases (recs.length == 0) <;> cases (recs.all rcOk4) <;> cases decide (recs.length < 65) <;> cases decide (8 + recN 8 4 recs < 1401) <;> rfl
      rw [e]
      exact igood_32 (ver := 0) (kind := 0) hn hm hR
end
structure St where
  k : Nat
  b : Bool
  e : Int
def rdSegs (s : ByteArray) (t : St) : List Seg := [.one (.string s), .one (.int .i64 (t.k : Int)), .one (.bool t.b)]
def failS (is : Bool) (c : Int) (t : St) : St := if is && t.e == 0 then ⟨t.k, t.b, c⟩ else t
theorem failS_k (is : Bool) (c : Int) (t : St) : (failS is c t).k = t.k := by unfold failS; split <;> rfl
theorem failS_b (is : Bool) (c : Int) (t : St) : (failS is c t).b = t.b := by unfold failS; split <;> rfl
theorem failS_e (is : Bool) (c : Int) (t : St) : (failS is c t).e = if is && t.e == 0 then c else t.e := by unfold failS; split <;> rfl
def stepS (s : ByteArray) (n : Nat) (t : St) : St := failS (rdB s t.k t.b n) 3 ⟨rdK s t.k t.b n, rdB s t.k t.b n, t.e⟩
def numV (s : ByteArray) (n : Nat) (t : St) : Nat := numL (rdS s t.k t.b n).data.toList
theorem rdS_le (s : ByteArray) (k : Nat) (b : Bool) (n : Nat) : (rdS s k b n).size ≤ n := by
  unfold rdS
  split
  · have := cut_size2 s k (k + n); omega
  · exact Nat.zero_le _
theorem numV_lt (s : ByteArray) (n : Nat) (t : St) : numV s n t < 256 ^ n := by
  unfold numV
  refine Nat.lt_of_lt_of_le (numL_lt _) (Nat.pow_le_pow_right (by omega) ?_)
  rw [size_toList]
  exact rdS_le _ _ _ _
theorem stepS_k {s : ByteArray} {n : Nat} {t : St} (h : t.k ≤ s.size) : (stepS s n t).k ≤ s.size := by
  unfold stepS
  rw [failS_k]
  exact rdK_le _ _ h
def adR (b : ByteArray) : Ad := if h : b.size = 4 then ⟨false, adOf b, adOf_length (by omega)⟩ else if h : b.size = 16 then ⟨true, adOf b, adOf_length (by omega)⟩ else Ad.z
def addrS (s : ByteArray) (n : Nat) (t : St) : Ad := adR (rdS s t.k t.b n)
section
variable {B : Nat} {w0 W w : World} {H : HB} {g gr : Nat} {s : ByteArray} {t : St} {Q : Ending → World → Prop}
abbrev rdH (g gr : Nat) (s : ByteArray) (t : St) (H : HB) : HB := (g, 163, true, [.one (.pointer (some ⟨gr, 0, none⟩)), .one (.int .i64 t.e)]) :: (gr, 129, true, rdSegs s t) :: H
theorem ifail_any {is : Bool} {c : Int} (hH : Hp B w0 W (rdH g gr s t H)) (hQ : ∀ W', Hp B w0 W' (rdH g gr s (failS is c t) H) → Q (.returned (.tuple #[])) W') : Calls Tryz.prog 156 #[.pointer (some ⟨g, 0, none⟩), .bool is, .int .i64 c] W Q := by
  obtain ⟨k, b, e⟩ := t
  have HQ := Lib.hid hQ
  clear hQ
  unfold rdH rdSegs failS at *
  cases is
  · go_enter Tryz.func156, Tryz.ntmps156
    go_wp2_with (refine st ?_; clear hH; first | intro W g hH | intro W hH)
    go_end0
    exact HQ.out _ (by simpa using hH)
  · by_cases he : e = 0
    · subst he
      go_enter Tryz.func156, Tryz.ntmps156
      go_wp2_with (refine st ?_; clear hH; first | intro W g hH | intro W hH)
      go_end0
      exact HQ.out _ (by simpa using hH)
    · have de : (e == 0) = false := by simpa using he
      go_enter Tryz.func156, Tryz.ntmps156
      go_wp2_with (refine st ?_; clear hH; first | intro W g hH | intro W hH)
      go_end0
      exact HQ.out _ (by simpa [de] using hH)
theorem hFail (i j : Nat) {H1 H2 : HB} {is : Bool} {c : Int} {e : Int} (hH : Hp B w0 W H) (hi : nthH H i = some (g, 163, true, [.one (.pointer (some ⟨gr, 0, none⟩)), .one (.int .i64 e)])) (hu : updH H i [.one (.pointer (some ⟨gr, 0, none⟩)), .one (.int .i64 (failS is c ⟨t.k, t.b, e⟩).e)] = some H1) (hj : nthH H1 j = some (gr, 129, true, rdSegs s t)) (hu2 : updH H1 j (rdSegs s t) = some H2) (hQ : ∀ W', Hp B w0 W' H2 → Q (.returned (.tuple #[])) W') : Calls Tryz.prog 156 #[.pointer (some ⟨g, 0, none⟩), .bool is, .int .i64 c] W Q :=
  callM2 i j hH hi hu hj hu2 (by decide) (fun H0 h k => ifail_any (t := ⟨t.k, t.b, e⟩) h (fun W' h' => k W' (by
    have e1 : (failS is c ⟨t.k, t.b, e⟩).k = t.k := failS_k _ _ _
    have e2 : (failS is c ⟨t.k, t.b, e⟩).b = t.b := failS_b _ _ _
    unfold rdH rdSegs at *
    rwa [e1, e2] at h'))) hQ
theorem adR_four {b : ByteArray} (h : b.size = 4) : adL (adR b) = addrL false (adOf b) := by unfold adR adL; rw [dif_pos h]
theorem adR_none {b : ByteArray} (h : b.size = 0) : adR b = Ad.z := by unfold adR; rw [dif_neg (by omega), dif_neg (by omega)]
theorem aRead_four {b : ByteArray} (h : b.size = 4 ∨ b.size = 0) : ∃ c : Int, ∀ w, Gives Tryz.prog 107 #[.string b] w (.tuple #[.agg (fls [.many (adL (adR b)) 17]).toArray, .int .i64 c]) := by
  rcases h with h | h
  · refine ⟨0, fun w => ?_⟩
    rw [adR_four h, addr_segs1]
    exact aRead_one (b := false) (by simpa using h)
  · refine ⟨2, fun w => ?_⟩
    have e : b = ⟨#[]⟩ := by
      have := size_toList b
      rw [h] at this
      have : b = ByteArray.empty := by simpa using this
      exact this
    rw [adR_none h, adL_z, e]
    refine Gives.of ?_
    have hH := Hp.refl w
    go_enter Tryz.func107, Tryz.ntmps107
    go_wp2_with (refine st ?_; clear hH; first | intro W g hH | intro W hH)
    (refine iRet2 Tryz.results107 tab_ok rfl rfl hH ?_; refine ⟨_, _, rfl, rfl, rfl, ?_⟩)
    exact ⟨rfl, hH.below⟩
theorem rdS_four (s : ByteArray) (k : Nat) (b : Bool) (n : Nat) : (rdS s k b n).size = n ∨ (rdS s k b n).size = 0 := by
  unfold rdS
  split
  · rename_i h
    have h2 : k + n ≤ s.size := by unfold rdFits at h; simp at h; exact h.2
    rw [extract_size h2 (by omega)]
    left; omega
  · exact .inr rfl
set_option maxHeartbeats 1000000 in
theorem inum_any {n : Nat} (hn : n ≤ 8) (hs : s.size ≤ 100000) (hk : t.k ≤ s.size) (hH : Hp B w0 W (rdH g gr s t H)) (hQ : ∀ W', Hp B w0 W' (rdH g gr s (stepS s n t) H) → Q (.returned (.int .i64 (wrap64 (numV s n t : Int)))) W') : Calls Tryz.prog 155 #[.pointer (some ⟨g, 0, none⟩), .int .i64 (n : Int)] W Q := by
  obtain ⟨k, b, e⟩ := t
  simp only at hk
  have HQ := Lib.hid hQ
  clear hQ
  have hw : wn (n : Int) 8 = n := by unfold wn within; split; omega; split <;> omega
  have hv := numV_lt s n ⟨k, b, e⟩
  have hk2 := rdK_le (s := s) (k := k) b n hk
  unfold rdH rdSegs at hH
  simp only at hH
  go_enter Tryz.func155, Tryz.ntmps155
  have hR : ∀ {W : World} {H' : HB} {Q : Ending → World → Prop}, Hp B w0 W ((g, 163, true, [.one (.pointer (some ⟨gr, 0, none⟩)), .one (.int .i64 e)]) :: (gr, 129, true, [.one (.string s), .one (.int .i64 (k : Int)), .one (.bool b)]) :: H') → (∀ W', Hp B w0 W' ((g, 163, true, [.one (.pointer (some ⟨gr, 0, none⟩)), .one (.int .i64 e)]) :: (gr, 129, true, [.one (.string s), .one (.int .i64 ((rdK s k b n : Nat) : Int)), .one (.bool (rdB s k b n))]) :: H') → Q (.returned (.int .u64 (numV s n ⟨k, b, e⟩ : Int))) W') → Calls Tryz.prog 49 #[.pointer (some ⟨gr, 0, none⟩), .int .i64 (n : Int)] W Q := fun h k' => by
    refine hNumA 1 h rfl rfl (by omega) hk ?_
    rw [hw]
    exact k'
  have HR := @hR
  clear hR
  have hF : ∀ {W : World} {H' : HB} {Q : Ending → World → Prop}, Hp B w0 W ((g, 163, true, [.one (.pointer (some ⟨gr, 0, none⟩)), .one (.int .i64 e)]) :: (gr, 129, true, [.one (.string s), .one (.int .i64 ((rdK s k b n : Nat) : Int)), .one (.bool (rdB s k b n))]) :: H') → (∀ W', Hp B w0 W' ((g, 163, true, [.one (.pointer (some ⟨gr, 0, none⟩)), .one (.int .i64 (stepS s n ⟨k, b, e⟩).e)]) :: (gr, 129, true, [.one (.string s), .one (.int .i64 ((rdK s k b n : Nat) : Int)), .one (.bool (rdB s k b n))]) :: H') → Q (.returned (.tuple #[])) W') → Calls Tryz.prog 156 #[.pointer (some ⟨g, 0, none⟩), .bool (rdB s k b n), .int .i64 3] W Q := fun h k' =>
    hFail (t := ⟨rdK s k b n, rdB s k b n, e⟩) 0 1 h rfl rfl rfl rfl k'
  have HF := @hF
  clear hF
  have ek : (stepS s n ⟨k, b, e⟩).k = rdK s k b n := failS_k _ _ _
  have eb : (stepS s n ⟨k, b, e⟩).b = rdB s k b n := failS_b _ _ _
  have HQ2 := Lib.hid (show ∀ W', Hp B w0 W' ((g, 163, true, [.one (.pointer (some ⟨gr, 0, none⟩)), .one (.int .i64 (stepS s n ⟨k, b, e⟩).e)]) :: (gr, 129, true, [.one (.string s), .one (.int .i64 ((rdK s k b n : Nat) : Int)), .one (.bool (rdB s k b n))]) :: H) → Q (.returned (.int .i64 (wrap64 (numV s n ⟨k, b, e⟩ : Int)))) W' from fun W' h => HQ.out W' (by unfold rdH rdSegs; rw [ek, eb]; exact h))
  clear HQ ek eb hw hv
  generalize numV s n ⟨k, b, e⟩ = v at *
  generalize (stepS s n ⟨k, b, e⟩).e = e' at *
  generalize rdK s k b n = k' at *
  generalize rdB s k b n = b' at *
  go_wp2_with (first | ((go_at_call 49; refine HR hH ?_; (clear hH; (first | intro W g hH | intro W hH); (try simp only [Act.put, pA, pB, pC])))) | ((go_at_call 52; refine hBad 1 hH rfl ?_; (clear hH; (first | intro W g hH | intro W hH); (try simp only [Act.put, pA, pB, pC])))) | ((go_at_call 156; refine HF hH ?_; (clear hH; (first | intro W g hH | intro W hH); (try simp only [Act.put, pA, pB, pC])))) | (refine st ?_; clear hH; first | intro W g hH | intro W hH))
  exact HQ2.out _ hH
theorem hINum (i j : Nat) {H1 H2 : HB} {n : Nat} (hn : n ≤ 8) (hs : s.size ≤ 100000) (hk : t.k ≤ s.size) (hH : Hp B w0 W H) (hi : nthH H i = some (g, 163, true, [.one (.pointer (some ⟨gr, 0, none⟩)), .one (.int .i64 t.e)])) (hu : updH H i [.one (.pointer (some ⟨gr, 0, none⟩)), .one (.int .i64 (stepS s n t).e)] = some H1) (hj : nthH H1 j = some (gr, 129, true, rdSegs s t)) (hu2 : updH H1 j (rdSegs s (stepS s n t)) = some H2) (hQ : ∀ W', Hp B w0 W' H2 → Q (.returned (.int .i64 (wrap64 (numV s n t : Int)))) W') : Calls Tryz.prog 155 #[.pointer (some ⟨g, 0, none⟩), .int .i64 (n : Int)] W Q :=
  callM2 i j hH hi hu hj hu2 (by decide) (fun H0 h k => inum_any hn hs hk h k) hQ
set_option maxHeartbeats 1000000 in
theorem iaddr_any (hs : s.size ≤ 100000) (hk : t.k ≤ s.size) (hH : Hp B w0 W (rdH g gr s t H)) (hQ : ∀ W', Hp B w0 W' (rdH g gr s (stepS s 4 t) H) → Q (.returned (.agg (fls [.many (adL (addrS s 4 t)) 17]).toArray)) W') : Calls Tryz.prog 159 #[.pointer (some ⟨g, 0, none⟩)] W Q := by
  obtain ⟨k, b, e⟩ := t
  simp only at hk
  have HQ := Lib.hid hQ
  clear hQ
  have hk2 := rdK_le (s := s) (k := k) b 4 hk
  obtain ⟨ec, hrd⟩ := aRead_four (rdS_four s k b 4)
  unfold rdH rdSegs at hH
  simp only at hH
  have hR : ∀ {W : World} {H' : HB} {a : Nat × TypeId × Bool × List Seg} {Q : Ending → World → Prop}, Hp B w0 W (a :: (g, 163, true, [.one (.pointer (some ⟨gr, 0, none⟩)), .one (.int .i64 e)]) :: (gr, 129, true, [.one (.string s), .one (.int .i64 (k : Int)), .one (.bool b)]) :: H') → (∀ W', Hp B w0 W' (a :: (g, 163, true, [.one (.pointer (some ⟨gr, 0, none⟩)), .one (.int .i64 e)]) :: (gr, 129, true, [.one (.string s), .one (.int .i64 ((rdK s k b 4 : Nat) : Int)), .one (.bool (rdB s k b 4))]) :: H') → Q (.returned (.string (rdS s k b 4))) W') → Calls Tryz.prog 101 #[.pointer (some ⟨gr, 0, none⟩), .int .i64 4] W Q := fun h k' =>
    hTakeA (n := 4) 2 h rfl rfl (by omega) hk (by omega) k'
  have HR := @hR
  clear hR
  have hF : ∀ {W : World} {H' : HB} {a a2 : Nat × TypeId × Bool × List Seg} {Q : Ending → World → Prop}, Hp B w0 W (a :: a2 :: (g, 163, true, [.one (.pointer (some ⟨gr, 0, none⟩)), .one (.int .i64 e)]) :: (gr, 129, true, [.one (.string s), .one (.int .i64 ((rdK s k b 4 : Nat) : Int)), .one (.bool (rdB s k b 4))]) :: H') → (∀ W', Hp B w0 W' (a :: a2 :: (g, 163, true, [.one (.pointer (some ⟨gr, 0, none⟩)), .one (.int .i64 (stepS s 4 ⟨k, b, e⟩).e)]) :: (gr, 129, true, [.one (.string s), .one (.int .i64 ((rdK s k b 4 : Nat) : Int)), .one (.bool (rdB s k b 4))]) :: H') → Q (.returned (.tuple #[])) W') → Calls Tryz.prog 156 #[.pointer (some ⟨g, 0, none⟩), .bool (rdB s k b 4), .int .i64 3] W Q := fun h k' =>
    hFail (t := ⟨rdK s k b 4, rdB s k b 4, e⟩) 2 3 h rfl rfl rfl rfl k'
  have HF := @hF
  clear hF
  have ek : (stepS s 4 ⟨k, b, e⟩).k = rdK s k b 4 := failS_k _ _ _
  have eb : (stepS s 4 ⟨k, b, e⟩).b = rdB s k b 4 := failS_b _ _ _
  have ea : addrS s 4 ⟨k, b, e⟩ = adR (rdS s k b 4) := rfl
  have HQ2 := Lib.hid (show ∀ W', Hp B w0 W' ((g, 163, true, [.one (.pointer (some ⟨gr, 0, none⟩)), .one (.int .i64 (stepS s 4 ⟨k, b, e⟩).e)]) :: (gr, 129, true, [.one (.string s), .one (.int .i64 ((rdK s k b 4 : Nat) : Int)), .one (.bool (rdB s k b 4))]) :: H) → Q (.returned (.agg (fls [.many (adL (adR (rdS s k b 4))) 17]).toArray)) W' from fun W' h => by rw [← ea]; exact HQ.out W' (by unfold rdH rdSegs; rw [ek, eb]; exact h))
  clear HQ ek eb ea
  have oA := adL_ok (adR (rdS s k b 4))
  generalize adL (adR (rdS s k b 4)) = A at *
  generalize (stepS s 4 ⟨k, b, e⟩).e = e' at *
  generalize rdS s k b 4 = v at *
  generalize rdK s k b 4 = k' at *
  generalize rdB s k b 4 = b' at *
  go_enter Tryz.func159, Tryz.ntmps159
  go_wp2_with (first | ((go_at_call 101; refine HR hH ?_; (clear hH; (first | intro W g hH | intro W hH); (try simp only [Act.put, pA, pB, pC])))) | ((go_at_call 52; refine hBad 3 hH rfl ?_; (clear hH; (first | intro W g hH | intro W hH); (try simp only [Act.put, pA, pB, pC])))) | ((go_at_call 156; refine HF hH ?_; (clear hH; (first | intro W g hH | intro W hH); (try simp only [Act.put, pA, pB, pC])))) | (refine st ?_; clear hH; first | intro W g hH | intro W hH) | ((with_reducible refine callH hH ?_); refine ⟨?_, ?_, ?_⟩; rotate_left; (focus (first | (with_reducible exact hrd _))); (clear hH; first | intro W g hH | intro W hH); ((try simp only [Act.put, pA, pB, pC]))))
  (refine iRet Tryz.results159 tab_ok rfl rfl hH ?_; refine ⟨_, _, rfl, rfl, rfl, ?_⟩)
  exact HQ2.out _ (hH.sub (SubH.drop (SubH.drop SubH.refl)))
theorem hIAddr (i j : Nat) {H1 H2 : HB} (hs : s.size ≤ 100000) (hk : t.k ≤ s.size) (hH : Hp B w0 W H) (hi : nthH H i = some (g, 163, true, [.one (.pointer (some ⟨gr, 0, none⟩)), .one (.int .i64 t.e)])) (hu : updH H i [.one (.pointer (some ⟨gr, 0, none⟩)), .one (.int .i64 (stepS s 4 t).e)] = some H1) (hj : nthH H1 j = some (gr, 129, true, rdSegs s t)) (hu2 : updH H1 j (rdSegs s (stepS s 4 t)) = some H2) (hQ : ∀ W', Hp B w0 W' H2 → Q (.returned (.agg (fls [.many (adL (addrS s 4 t)) 17]).toArray)) W') : Calls Tryz.prog 159 #[.pointer (some ⟨g, 0, none⟩)] W Q :=
  callM2 i j hH hi hu hj hu2 (by decide) (fun H0 h k => iaddr_any hs hk h k) hQ
end
def srcL (s : ByteArray) (n : Nat) : Nat → List Ad → St → List Ad × St
  | 0, X, t => (X, t)
  | f + 1, X, t => if X.length < n ∧ t.e = 0 then srcL s n f (X ++ [addrS s 4 t]) (stepS s 4 t) else (X, t)
def srcF (s : ByteArray) (n : Nat) (t : St) : List Ad × St := srcL s n 65 [] (failS (decide (64 < n)) 6 t)
theorem srcL_more {s : ByteArray} {n f : Nat} {X : List Ad} {t : St} (h : X.length < n ∧ t.e = 0) : srcL s n (f + 1) X t = srcL s n f (X ++ [addrS s 4 t]) (stepS s 4 t) := by rw [srcL, if_pos h]
theorem srcL_end {s : ByteArray} {n f : Nat} {X : List Ad} {t : St} (h : ¬(X.length < n ∧ t.e = 0)) : srcL s n f X t = (X, t) := by
  cases f with
  | zero => rfl
  | succ f => rw [srcL, if_neg h]
theorem srcL_k {s : ByteArray} {n : Nat} : ∀ {f : Nat} {X : List Ad} {t : St}, t.k ≤ s.size → (srcL s n f X t).2.k ≤ s.size
  | 0, X, t, h => h
  | f + 1, X, t, h => by
    rw [srcL]
    split
    · exact srcL_k (stepS_k h)
    · exact h
theorem srcF_k {s : ByteArray} {n : Nat} {t : St} (h : t.k ≤ s.size) : (srcF s n t).2.k ≤ s.size := by
  unfold srcF
  exact srcL_k (by rw [failS_k]; exact h)
section
variable {B : Nat} {w0 W w : World} {H : HB} {g gr : Nat} {s : ByteArray} {t : St} {Q : Ending → World → Prop}
set_option maxHeartbeats 2000000 in
theorem isources_any {n : Nat} (hn : n < 65536) (hs : s.size ≤ 100000) (hk : t.k ≤ s.size) (hH : Hp B w0 W (rdH g gr s t H)) (hQ : ∀ W' p c D L t', Hid (srcF s n t = (L, t')) → Hid (∀ B w0 W, Hp B w0 W D → AdsAt W p L) → Hid (∀ r ∈ D, r.2.2.1 = true) → Hp B w0 W' (rdH g gr s t' (D ++ H)) → Q (.returned (.slice p L.length c)) W') : Calls Tryz.prog 194 #[.pointer (some ⟨g, 0, none⟩), .int .i64 (n : Int)] W Q := by
  have HQ := Lib.hid hQ
  clear hQ
  obtain ⟨res, hres⟩ : ∃ r, srcF s n t = r := ⟨_, rfl⟩
  have HR := Lib.hid hres
  have hk0 : (failS (decide (64 < n)) 6 t).k ≤ s.size := by rw [failS_k]; exact hk
  have h64 : n ≤ 64 ∨ (failS (decide (64 < n)) 6 t).e ≠ 0 := by
    by_cases h : n ≤ 64
    · exact .inl h
    · right
      rw [failS_e, decide_eq_true (show 64 < n by omega), Bool.true_and]
      by_cases he : t.e = 0
      · rw [he]; simp
      · rw [if_neg (by simpa using he)]; exact he
  have hF : ∀ {W : World} {Q : Ending → World → Prop}, Hp B w0 W (rdH g gr s t H) → (∀ W', Hp B w0 W' (rdH g gr s (failS (decide (64 < n)) 6 t) H) → Q (.returned (.tuple #[])) W') → Calls Tryz.prog 156 #[.pointer (some ⟨g, 0, none⟩), .bool (decide (64 < (n : Int))), .int .i64 6] W Q := fun h k' => by
    rw [show decide (64 < (n : Int)) = decide (64 < n) from decide_eq_decide.2 (by omega)]
    exact ifail_any h k'
  have HF := @hF
  clear hF
  have HL := Lib.hid (show srcL s n 65 [] (failS (decide (64 < n)) 6 t) = res from hres)
  clear hres hk
  generalize failS (decide (64 < n)) 6 t = t1 at *
  unfold rdH at *
  go_enter Tryz.func194, Tryz.ntmps194
  go_wp2_with (first | ((go_at_call 156; refine HF hH ?_; (clear hH; (first | intro W g hH | intro W hH); (try simp only [Act.put, pA, pB, pC])))) | (refine st ?_; clear hH; first | intro W g hH | intro W hH))
  go_loopw [5] (fun sl wr => ∃ (X : List Ad) (t' : St) (f : Nat), Hid (srcL s n f X t' = res) ∧ f + X.length = 65 ∧ t'.k ≤ s.size ∧ (n ≤ 64 ∨ t'.e ≠ 0) ∧ X.length ≤ 64 ∧ ((Hid (X = []) ∧ sl = .slice none 0 0 ∧ Hp B w0 wr ((g, 163, true, [.one (.pointer (some ⟨gr, 0, none⟩)), .one (.int .i64 t'.e)]) :: (gr, 129, true, rdSegs s t') :: H)) ∨ (∃ (go cc q : Nat) (J : List Value), sl = .slice (some ⟨go, 0, none⟩) X.length cc ∧ Grow 17 X.length cc (X.length * 17) q ∧ OkA J q ∧ Hp B w0 wr ((go, 25, true, [.many (adsL X) (X.length * 17), .many J q]) :: (g, 163, true, [.one (.pointer (some ⟨gr, 0, none⟩)), .one (.int .i64 t'.e)]) :: (gr, 129, true, rdSegs s t') :: H)))) (fun sl _ => match sl with | .slice _ m _ => 64 - m | _ => 0)
  case atStart => exact ⟨[], t1, 65, HL, rfl, hk0, h64, by simp, .inl ⟨Lib.hid rfl, rfl, hH⟩⟩
  case round =>
    clear hH HL HF
    obtain ⟨X, t', f, HL, hf, hk', h64', hX64, hor⟩ := hrel
    by_cases hc : X.length < n ∧ t'.e = 0
    · obtain ⟨hXn, he⟩ := hc
      have hn64 : n ≤ 64 := by rcases h64' with h | h; exact h; exact absurd he h
      obtain ⟨f', rfl⟩ : ∃ f', f = f' + 1 := ⟨f - 1, by omega⟩
      have HL2 := Lib.hid ((srcL_more ⟨hXn, he⟩).symm.trans HL.out)
      have hk2 := stepS_k (n := 4) hk'
      have dj : decide ((X.length : Int) < (n : Int)) = true := decide_eq_true (by omega)
      have hSnoc := Lib.hid (adsL_snoc X (addrS s 4 t'))
      have oY := adL_ok (addrS s 4 t')
      obtain ⟨k', b', e'⟩ := t'
      simp only at he
      subst he
      have HA := Lib.hid (show ∀ (W : World) (H H1 H2 : HB) (Q : Ending → World → Prop) (i j : Nat), Hp B w0 W H → nthH H i = some (g, 163, true, [.one (.pointer (some ⟨gr, 0, none⟩)), .one (.int .i64 0)]) → updH H i [.one (.pointer (some ⟨gr, 0, none⟩)), .one (.int .i64 (stepS s 4 ⟨k', b', 0⟩).e)] = some H1 → nthH H1 j = some (gr, 129, true, rdSegs s ⟨k', b', 0⟩) → updH H1 j (rdSegs s (stepS s 4 ⟨k', b', 0⟩)) = some H2 → (∀ W', Hp B w0 W' H2 → Q (.returned (.agg (fls [.many (adL (addrS s 4 ⟨k', b', 0⟩)) 17]).toArray)) W') → Calls Tryz.prog 159 #[.pointer (some ⟨g, 0, none⟩)] W Q from fun W H H1 H2 Q i j h h1 h2 h3 h4 hQ => hIAddr (t := ⟨k', b', 0⟩) i j hs hk' h h1 h2 h3 h4 hQ)
      generalize addrS s 4 ⟨k', b', 0⟩ = y at *
      generalize stepS s 4 ⟨k', b', 0⟩ = t2 at *
      obtain ⟨Y, hY⟩ : ∃ Y, Y = adL y := ⟨_, rfl⟩
      rw [← hY] at oY HA hSnoc
      have HY := Lib.hid hY
      clear hY
      rcases hor with ⟨hX, rfl, hH⟩ | ⟨go, cc, q, J, rfl, hG, oJ, hH⟩
      · have hX := hX.out
        subst hX
        have d0 : decide ((0 : Int) < (n : Int)) = true := decide_eq_true (by simp at hXn; omega)
        go_wp2_with (first | ((go_at_call 159; refine HA.out _ _ _ _ _ 0 1 hH rfl rfl rfl rfl ?_; (clear hH; (first | intro W g hH | intro W hH); (try simp only [Act.put, pA, pB, pC])))) | (((first | (refine hApp0 0 tab_ok tabs_ok rfl rfl rfl rfl rfl rfl rfl hH rfl rfl rfl ?_; refine ⟨?_, ?_, ?_⟩; (focus (first | omega | (simp; omega))); (focus (first | omega | (simp; omega))))); clear hH; intro W g c p q J hG hL hJ hH; (try simp only [putH, fls, List.append_nil] at hH hL); (try simp only [Act.put, pA, pB, pC]))) | (refine st ?_; clear hH; first | intro W g hH | intro W hH))
        have hp := hG.hp
        have hq := hG.hq
        have hle := hG.le
        have hmo := hG.most
        refine ⟨⟨[y], t2, f', HL2, by simp at *; omega, hk2, by omega, by simp, .inr ⟨_, c, q, J, rfl, ⟨rfl, by rw [← hq, hp]; rfl, hle, hmo⟩, hJ, ?_⟩⟩, by simp⟩
        have e2 : adsL [y] = Y := by rw [HY.out]; simp [adsL]
        have e1 : [y].length * 17 = p := by rw [hp]; simp
        rw [e2, e1]
        exact hH.sub (SubH.keep (SubH.drop SubH.refl))
      · go_wp2_with (first | ((go_at_call 159; refine HA.out _ _ _ _ _ 1 2 hH rfl rfl rfl rfl ?_; (clear hH; (first | intro W g hH | intro W hH); (try simp only [Act.put, pA, pB, pC])))) | (((first | (refine hApp 1 0 tab_ok tabs_ok rfl rfl rfl rfl rfl rfl rfl hH rfl rfl rfl rfl ?_; refine ⟨?_, ?_, ?_⟩; (focus assumption); (focus (first | omega | (simp; omega))))); clear hH; intro W g c p q J hG hL hJ hH; (try simp only [putH, fls, List.append_nil] at hH hL); (try simp only [Act.put, pA, pB, pC]))) | (refine st ?_; clear hH; first | intro W g hH | intro W hH))
        have hp := hG.hp
        have hq := hG.hq
        have hle := hG.le
        have hmo := hG.most
        have e1 : (X ++ [y]).length = X.length + 1 := by simp
        refine ⟨⟨X ++ [y], t2, f', HL2, by simp; omega, hk2, by omega, by simp; omega, .inr ⟨g, c, q, J, by simp, by rw [e1]; exact ⟨rfl, by rw [← hq, hp], hle, hmo⟩, hJ, ?_⟩⟩, by simp; omega⟩
        have e2 : (X ++ [y]).length * 17 = p := by rw [hp]; simp
        rw [e2, hSnoc.out]
        exact hH.sub (SubH.drop SubH.refl)
    · obtain ⟨k', b', e'⟩ := t'
      simp only at hc hor
      have hcase : (n ≤ X.length ∧ decide ((X.length : Int) < (n : Int)) = false) ∨ (X.length < n ∧ e' ≠ 0 ∧ decide ((X.length : Int) < (n : Int)) = true ∧ (e' == 0) = false) := by
        by_cases h1 : X.length < n
        · have h2 : e' ≠ 0 := fun h => hc ⟨h1, h⟩
          exact .inr ⟨h1, h2, decide_eq_true (by omega), by simpa using h2⟩
        · exact .inl ⟨by omega, decide_eq_false (by omega)⟩
      have HL2 := Lib.hid ((srcL_end hc).symm.trans HL.out)
      have HE := Lib.hid (show srcF s n t = (X, ⟨k', b', e'⟩) from HR.out.trans HL2.out.symm)
      clear hc HL HL2 HR
      rcases hor with ⟨hX, rfl, hH⟩ | ⟨go, cc, q, J, rfl, hG, oJ, hH⟩
      · have hX := hX.out
        subst hX
        rcases hcase with ⟨h1, dj⟩ | ⟨h1, h2, dj, de⟩
        all_goals
          have d0 := show decide ((0 : Int) < (n : Int)) = _ from dj
          clear dj
          simp only [List.length_nil] at h1
          go_wp2_with (refine st ?_; clear hH; first | intro W g hH | intro W hH)
          exact HQ.out _ none 0 [] [] ⟨k', b', e'⟩ HE (Lib.hid (fun _ _ _ _ => AdsAt.nil)) (Lib.hid (fun r hr => by simp at hr)) hH
      · have hp := hG
        clear hG
        rcases hcase with ⟨h1, dj⟩ | ⟨h1, h2, dj, de⟩
        all_goals
          go_wp2_with (refine st ?_; clear hH; first | intro W g hH | intro W hH)
          exact HQ.out _ (some ⟨go, 0, none⟩) cc [(go, _, true, [.many (adsL X) (X.length * 17), .many J q])] X ⟨k', b', e'⟩ HE (Lib.hid (fun B w0 W h => by exact adsAt_row (J := J) (by omega) (by simpa [fls] using (h.rows.mem (i := 0) rfl).1))) (Lib.hid (fun r hr => by simp at hr; rw [hr])) (hH.perm ((List.Perm.swap _ _ _).trans ((List.Perm.swap _ _ _).cons _)))
end
end Go.Proofs.YtdnehjhijmeihaaGreat
