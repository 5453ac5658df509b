/-
  Contracts of package igmp: the reader's methods that read one thing.
-/
import Derived.Test.YtnobencogihbnaaGreatGa
import Derived.Test.YtnobencogihbnaaGreatRg
import Derived.Test.YtnobencogihbnaaGreatIn
namespace Go.Proofs.YtnobencogihbnaaGreat
-- %in
open Go.ChangeShapes Go.WideShapes Go.ChangeAt Go.RowKit
set_option linter.unusedVariables false
set_option linter.unusedSimpArgs false
set_option maxRecDepth 20000
attribute [local irreducible] wpList

/-- where a reader stands: its place, whether it went too far, what was noted -/
structure St where
  k : Nat
  b : Bool
  e : Int
def rdSegs (s : ByteArray) (t : St) : List Seg := [.one (.string s), .one (.int .i64 (t.k : Int)), .one (.bool t.b)]
def failS (is : Bool) (c : Int) (t : St) : St := if is && t.e == 0 then ⟨t.k, t.b, c⟩ else t
theorem failS_k (is : Bool) (c : Int) (t : St) : (failS is c t).k = t.k := by unfold failS; split <;> rfl
theorem failS_b (is : Bool) (c : Int) (t : St) : (failS is c t).b = t.b := by unfold failS; split <;> rfl
theorem failS_e (is : Bool) (c : Int) (t : St) : (failS is c t).e = if is && t.e == 0 then c else t.e := by unfold failS; split <;> rfl
/-- behind n bytes -/
def stepS (s : ByteArray) (n : Nat) (t : St) : St := failS (rdB s t.k t.b n) 3 ⟨rdK s t.k t.b n, rdB s t.k t.b n, t.e⟩
def numV (s : ByteArray) (n : Nat) (t : St) : Nat := numL (rdS s t.k t.b n).data.toList
theorem rdS_le (s : ByteArray) (k : Nat) (b : Bool) (n : Nat) : (rdS s k b n).size ≤ n := by
  unfold rdS
  split
  · have := cut_size2 s k (k + n); omega
  · exact Nat.zero_le _
theorem numV_lt (s : ByteArray) (n : Nat) (t : St) : numV s n t < 256 ^ n := by
  unfold numV
  refine Nat.lt_of_lt_of_le (numL_lt _) (Nat.pow_le_pow_right (by omega) ?_)
  rw [size_toList]
  exact rdS_le _ _ _ _
theorem stepS_k {s : ByteArray} {n : Nat} {t : St} (h : t.k ≤ s.size) : (stepS s n t).k ≤ s.size := by
  unfold stepS
  rw [failS_k]
  exact rdK_le _ _ h
def adR (b : ByteArray) : Ad := if h : b.size = 4 then ⟨false, adOf b, adOf_length (by omega)⟩ else if h : b.size = 16 then ⟨true, adOf b, adOf_length (by omega)⟩ else Ad.z
def addrS (s : ByteArray) (n : Nat) (t : St) : Ad := adR (rdS s t.k t.b n)
section
variable {B : Nat} {w0 W w : World} {H : HB} {g gr : Nat} {s : ByteArray} {t : St} {Q : Ending → World → Prop}
abbrev rdH (g gr : Nat) (s : ByteArray) (t : St) (H : HB) : HB := (g, 149, true, [.one (.pointer (some ⟨gr, 0, none⟩)), .one (.int .i64 t.e)]) :: (gr, 117, true, rdSegs s t) :: H
theorem ifail_any {is : Bool} {c : Int} (hH : Hp B w0 W (rdH g gr s t H)) (hQ : ∀ W', Hp B w0 W' (rdH g gr s (failS is c t) H) → Q (.returned (.tuple #[])) W') : Calls Tryz.prog 135 #[.pointer (some ⟨g, 0, none⟩), .bool is, .int .i64 c] W Q := by
  obtain ⟨k, b, e⟩ := t
  have HQ := Lib.hid hQ
  clear hQ
  unfold rdH rdSegs failS at *
  cases is
  · go_enter Tryz.func135, Tryz.ntmps135
    go_wp2_with (fail)
    go_end0
    exact HQ.out _ (by simpa using hH)
  · by_cases he : e = 0
    · subst he
      go_enter Tryz.func135, Tryz.ntmps135
      go_wp2_with (first | ((first | (refine iL tab_ok rfl ?_ rfl hH ?_; (focus (first | exact wN rfl | exact rfl)); refine ⟨_, _, rfl, rfl, ?_⟩) | (refine iS1 tab_ok rfl ?_ rfl hH ?_; (focus (first | exact wN rfl | exact rfl)); refine ⟨_, _, _, _, rfl, rfl, rfl, rfl, rfl, ?_⟩)); clear hH; (first | intro W g hH | intro W hH); ((try simp only [Act.put, pA, pB, pC]))))
      go_end0
      exact HQ.out _ (by simpa using hH)
    · have de : (e == 0) = false := by simpa using he
      go_enter Tryz.func135, Tryz.ntmps135
      go_wp2_with (first | ((first | (refine iL tab_ok rfl ?_ rfl hH ?_; (focus (first | exact wN rfl | exact rfl)); refine ⟨_, _, rfl, rfl, ?_⟩)); clear hH; (first | intro W g hH | intro W hH); ((try simp only [Act.put, pA, pB, pC]))))
      go_end0
      exact HQ.out _ (by simpa [de] using hH)
theorem hFail (i j : Nat) {H1 H2 : HB} {is : Bool} {c : Int} {e : Int} (hH : Hp B w0 W H) (hi : nthH H i = some (g, 149, true, [.one (.pointer (some ⟨gr, 0, none⟩)), .one (.int .i64 e)])) (hu : updH H i [.one (.pointer (some ⟨gr, 0, none⟩)), .one (.int .i64 (failS is c ⟨t.k, t.b, e⟩).e)] = some H1) (hj : nthH H1 j = some (gr, 117, true, rdSegs s t)) (hu2 : updH H1 j (rdSegs s t) = some H2) (hQ : ∀ W', Hp B w0 W' H2 → Q (.returned (.tuple #[])) W') : Calls Tryz.prog 135 #[.pointer (some ⟨g, 0, none⟩), .bool is, .int .i64 c] W Q :=
  callM2 i j hH hi hu hj hu2 (by decide) (fun H0 h k => ifail_any (t := ⟨t.k, t.b, e⟩) h (fun W' h' => k W' (by
    have e1 : (failS is c ⟨t.k, t.b, e⟩).k = t.k := failS_k _ _ _
    have e2 : (failS is c ⟨t.k, t.b, e⟩).b = t.b := failS_b _ _ _
    unfold rdH rdSegs at *
    rwa [e1, e2] at h'))) hQ
theorem adR_four {b : ByteArray} (h : b.size = 4) : adL (adR b) = addrL false (adOf b) := by unfold adR adL; rw [dif_pos h]
theorem adR_none {b : ByteArray} (h : b.size = 0) : adR b = Ad.z := by unfold adR; rw [dif_neg (by omega), dif_neg (by omega)]
theorem aRead_four {b : ByteArray} (h : b.size = 4 ∨ b.size = 0) : ∃ c : Int, ∀ w, Gives Tryz.prog 98 #[.string b] w (.tuple #[.agg (fls [.many (adL (adR b)) 17]).toArray, .int .i64 c]) := by
  rcases h with h | h
  · refine ⟨0, fun w => ?_⟩
    rw [adR_four h, addr_segs1]
    exact aRead_one (b := false) (by simpa using h)
  · refine ⟨2, fun w => ?_⟩
    have e : b = ⟨#[]⟩ := by
      have := size_toList b
      rw [h] at this
      have : b = ByteArray.empty := by simpa using this
      exact this
    rw [adR_none h, adL_z, e]
    refine Gives.of ?_
    have hH := Hp.refl w
    go_enter Tryz.func98, Tryz.ntmps98
    go_wp2_with (first | ((first | (refine iL tab_ok rfl ?_ rfl hH ?_; (focus (first | exact wN rfl | exact rfl)); refine ⟨_, _, rfl, rfl, ?_⟩) | (refine iSR tab_ok rfl ?_ rfl hH ?_; (focus (first | exact wN rfl | exact rfl)); refine ⟨_, _, _, _, rfl, rfl, rfl, rfl, rfl, ?_, ?_⟩; (focus (repeat (first | exact trivial | assumption | exact OkA.z (by kernel_rfl) (by kernel_rfl) | refine ⟨rfl, ?_⟩ | refine ⟨?_, ?_⟩)))) | (refine hAl tab_ok rfl ?_ hH rfl ?_; (focus (first | exact wN rfl | exact rfl)))); clear hH; (first | intro W g hH | intro W hH); ((try simp only [Act.put, pA, pB, pC]))))
    (refine iRet2 Tryz.results98 tab_ok rfl rfl hH ?_; refine ⟨_, _, rfl, rfl, rfl, ?_⟩)
    exact ⟨rfl, hH.below⟩
theorem rdS_four (s : ByteArray) (k : Nat) (b : Bool) (n : Nat) : (rdS s k b n).size = n ∨ (rdS s k b n).size = 0 := by
  unfold rdS
  split
  · rename_i h
    have h2 : k + n ≤ s.size := by unfold rdFits at h; simp at h; exact h.2
    rw [extract_size h2 (by omega)]
    left; omega
  · exact .inr rfl
set_option maxHeartbeats 1000000 in
theorem inum_any {n : Nat} (hn : n ≤ 8) (hs : s.size ≤ 100000) (hk : t.k ≤ s.size) (hH : Hp B w0 W (rdH g gr s t H)) (hQ : ∀ W', Hp B w0 W' (rdH g gr s (stepS s n t) H) → Q (.returned (.int .i64 (wrap64 (numV s n t : Int)))) W') : Calls Tryz.prog 134 #[.pointer (some ⟨g, 0, none⟩), .int .i64 (n : Int)] W Q := by
  obtain ⟨k, b, e⟩ := t
  simp only at hk
  have HQ := Lib.hid hQ
  clear hQ
  have hw : wn (n : Int) 8 = n := by unfold wn within; split; omega; split <;> omega
  have hv := numV_lt s n ⟨k, b, e⟩
  have hk2 := rdK_le (s := s) (k := k) b n hk
  unfold rdH rdSegs at hH
  simp only at hH
  go_enter Tryz.func134, Tryz.ntmps134
  have hR : ∀ {W : World} {H' : HB} {Q : Ending → World → Prop}, Hp B w0 W ((g, 149, true, [.one (.pointer (some ⟨gr, 0, none⟩)), .one (.int .i64 e)]) :: (gr, 117, true, [.one (.string s), .one (.int .i64 (k : Int)), .one (.bool b)]) :: H') → (∀ W', Hp B w0 W' ((g, 149, true, [.one (.pointer (some ⟨gr, 0, none⟩)), .one (.int .i64 e)]) :: (gr, 117, true, [.one (.string s), .one (.int .i64 ((rdK s k b n : Nat) : Int)), .one (.bool (rdB s k b n))]) :: H') → Q (.returned (.int .u64 (numV s n ⟨k, b, e⟩ : Int))) W') → Calls Tryz.prog 64 #[.pointer (some ⟨gr, 0, none⟩), .int .i64 (n : Int)] W Q := fun h k' => by
    refine hNumA 1 h rfl rfl (by omega) hk ?_
    rw [hw]
    exact k'
  have HR := @hR
  clear hR
  have hF : ∀ {W : World} {H' : HB} {Q : Ending → World → Prop}, Hp B w0 W ((g, 149, true, [.one (.pointer (some ⟨gr, 0, none⟩)), .one (.int .i64 e)]) :: (gr, 117, true, [.one (.string s), .one (.int .i64 ((rdK s k b n : Nat) : Int)), .one (.bool (rdB s k b n))]) :: H') → (∀ W', Hp B w0 W' ((g, 149, true, [.one (.pointer (some ⟨gr, 0, none⟩)), .one (.int .i64 (stepS s n ⟨k, b, e⟩).e)]) :: (gr, 117, true, [.one (.string s), .one (.int .i64 ((rdK s k b n : Nat) : Int)), .one (.bool (rdB s k b n))]) :: H') → Q (.returned (.tuple #[])) W') → Calls Tryz.prog 135 #[.pointer (some ⟨g, 0, none⟩), .bool (rdB s k b n), .int .i64 3] W Q := fun h k' =>
    hFail (t := ⟨rdK s k b n, rdB s k b n, e⟩) 0 1 h rfl rfl rfl rfl k'
  have HF := @hF
  clear hF
  have ek : (stepS s n ⟨k, b, e⟩).k = rdK s k b n := failS_k _ _ _
  have eb : (stepS s n ⟨k, b, e⟩).b = rdB s k b n := failS_b _ _ _
  have HQ2 := Lib.hid (show ∀ W', Hp B w0 W' ((g, 149, true, [.one (.pointer (some ⟨gr, 0, none⟩)), .one (.int .i64 (stepS s n ⟨k, b, e⟩).e)]) :: (gr, 117, true, [.one (.string s), .one (.int .i64 ((rdK s k b n : Nat) : Int)), .one (.bool (rdB s k b n))]) :: H) → Q (.returned (.int .i64 (wrap64 (numV s n ⟨k, b, e⟩ : Int)))) W' from fun W' h => HQ.out W' (by unfold rdH rdSegs; rw [ek, eb]; exact h))
  clear HQ ek eb hw hv
  generalize numV s n ⟨k, b, e⟩ = v at *
  generalize (stepS s n ⟨k, b, e⟩).e = e' at *
  generalize rdK s k b n = k' at *
  generalize rdB s k b n = b' at *
  go_wp2_with (first | ((go_at_call 64; refine HR hH ?_; (clear hH; (first | intro W g hH | intro W hH); (try simp only [Act.put, pA, pB, pC])))) | ((go_at_call 67; refine hBad 1 hH rfl ?_; (clear hH; (first | intro W g hH | intro W hH); (try simp only [Act.put, pA, pB, pC])))) | ((go_at_call 135; refine HF hH ?_; (clear hH; (first | intro W g hH | intro W hH); (try simp only [Act.put, pA, pB, pC])))) | ((first | (refine iL tab_ok rfl ?_ rfl hH ?_; (focus (first | exact wN rfl | exact rfl)); refine ⟨_, _, rfl, rfl, ?_⟩)); clear hH; (first | intro W g hH | intro W hH); ((try simp only [Act.put, pA, pB, pC]))))
  exact HQ2.out _ hH
theorem hINum (i j : Nat) {H1 H2 : HB} {n : Nat} (hn : n ≤ 8) (hs : s.size ≤ 100000) (hk : t.k ≤ s.size) (hH : Hp B w0 W H) (hi : nthH H i = some (g, 149, true, [.one (.pointer (some ⟨gr, 0, none⟩)), .one (.int .i64 t.e)])) (hu : updH H i [.one (.pointer (some ⟨gr, 0, none⟩)), .one (.int .i64 (stepS s n t).e)] = some H1) (hj : nthH H1 j = some (gr, 117, true, rdSegs s t)) (hu2 : updH H1 j (rdSegs s (stepS s n t)) = some H2) (hQ : ∀ W', Hp B w0 W' H2 → Q (.returned (.int .i64 (wrap64 (numV s n t : Int)))) W') : Calls Tryz.prog 134 #[.pointer (some ⟨g, 0, none⟩), .int .i64 (n : Int)] W Q :=
  callM2 i j hH hi hu hj hu2 (by decide) (fun H0 h k => inum_any hn hs hk h k) hQ
set_option maxHeartbeats 1000000 in
theorem iaddr_any (hs : s.size ≤ 100000) (hk : t.k ≤ s.size) (hH : Hp B w0 W (rdH g gr s t H)) (hQ : ∀ W', Hp B w0 W' (rdH g gr s (stepS s 4 t) H) → Q (.returned (.agg (fls [.many (adL (addrS s 4 t)) 17]).toArray)) W') : Calls Tryz.prog 138 #[.pointer (some ⟨g, 0, none⟩)] W Q := by
  obtain ⟨k, b, e⟩ := t
  simp only at hk
  have HQ := Lib.hid hQ
  clear hQ
  have hk2 := rdK_le (s := s) (k := k) b 4 hk
  obtain ⟨ec, hrd⟩ := aRead_four (rdS_four s k b 4)
  unfold rdH rdSegs at hH
  simp only at hH
  have hR : ∀ {W : World} {H' : HB} {a : Nat × TypeId × Bool × List Seg} {Q : Ending → World → Prop}, Hp B w0 W (a :: (g, 149, true, [.one (.pointer (some ⟨gr, 0, none⟩)), .one (.int .i64 e)]) :: (gr, 117, true, [.one (.string s), .one (.int .i64 (k : Int)), .one (.bool b)]) :: H') → (∀ W', Hp B w0 W' (a :: (g, 149, true, [.one (.pointer (some ⟨gr, 0, none⟩)), .one (.int .i64 e)]) :: (gr, 117, true, [.one (.string s), .one (.int .i64 ((rdK s k b 4 : Nat) : Int)), .one (.bool (rdB s k b 4))]) :: H') → Q (.returned (.string (rdS s k b 4))) W') → Calls Tryz.prog 92 #[.pointer (some ⟨gr, 0, none⟩), .int .i64 4] W Q := fun h k' =>
    hTakeA (n := 4) 2 h rfl rfl (by omega) hk (by omega) k'
  have HR := @hR
  clear hR
  have hF : ∀ {W : World} {H' : HB} {a a2 : Nat × TypeId × Bool × List Seg} {Q : Ending → World → Prop}, Hp B w0 W (a :: a2 :: (g, 149, true, [.one (.pointer (some ⟨gr, 0, none⟩)), .one (.int .i64 e)]) :: (gr, 117, true, [.one (.string s), .one (.int .i64 ((rdK s k b 4 : Nat) : Int)), .one (.bool (rdB s k b 4))]) :: H') → (∀ W', Hp B w0 W' (a :: a2 :: (g, 149, true, [.one (.pointer (some ⟨gr, 0, none⟩)), .one (.int .i64 (stepS s 4 ⟨k, b, e⟩).e)]) :: (gr, 117, true, [.one (.string s), .one (.int .i64 ((rdK s k b 4 : Nat) : Int)), .one (.bool (rdB s k b 4))]) :: H') → Q (.returned (.tuple #[])) W') → Calls Tryz.prog 135 #[.pointer (some ⟨g, 0, none⟩), .bool (rdB s k b 4), .int .i64 3] W Q := fun h k' =>
    hFail (t := ⟨rdK s k b 4, rdB s k b 4, e⟩) 2 3 h rfl rfl rfl rfl k'
  have HF := @hF
  clear hF
  have ek : (stepS s 4 ⟨k, b, e⟩).k = rdK s k b 4 := failS_k _ _ _
  have eb : (stepS s 4 ⟨k, b, e⟩).b = rdB s k b 4 := failS_b _ _ _
  have ea : addrS s 4 ⟨k, b, e⟩ = adR (rdS s k b 4) := rfl
  have HQ2 := Lib.hid (show ∀ W', Hp B w0 W' ((g, 149, true, [.one (.pointer (some ⟨gr, 0, none⟩)), .one (.int .i64 (stepS s 4 ⟨k, b, e⟩).e)]) :: (gr, 117, true, [.one (.string s), .one (.int .i64 ((rdK s k b 4 : Nat) : Int)), .one (.bool (rdB s k b 4))]) :: H) → Q (.returned (.agg (fls [.many (adL (adR (rdS s k b 4))) 17]).toArray)) W' from fun W' h => by rw [← ea]; exact HQ.out W' (by unfold rdH rdSegs; rw [ek, eb]; exact h))
  clear HQ ek eb ea
  have oA := adL_ok (adR (rdS s k b 4))
  generalize adL (adR (rdS s k b 4)) = A at *
  generalize (stepS s 4 ⟨k, b, e⟩).e = e' at *
  generalize rdS s k b 4 = v at *
  generalize rdK s k b 4 = k' at *
  generalize rdB s k b 4 = b' at *
  go_enter Tryz.func138, Tryz.ntmps138
  go_wp2_with (first | ((go_at_call 92; refine HR hH ?_; (clear hH; (first | intro W g hH | intro W hH); (try simp only [Act.put, pA, pB, pC])))) | ((go_at_call 67; refine hBad 3 hH rfl ?_; (clear hH; (first | intro W g hH | intro W hH); (try simp only [Act.put, pA, pB, pC])))) | ((go_at_call 135; refine HF hH ?_; (clear hH; (first | intro W g hH | intro W hH); (try simp only [Act.put, pA, pB, pC])))) | ((first | (refine iL tab_ok rfl ?_ rfl hH ?_; (focus (first | exact wN rfl | exact rfl)); refine ⟨_, _, rfl, rfl, ?_⟩) | (refine iSR tab_ok rfl ?_ rfl hH ?_; (focus (first | exact wN rfl | exact rfl)); refine ⟨_, _, _, _, rfl, rfl, rfl, rfl, rfl, ?_, ?_⟩; (focus (repeat (first | exact trivial | assumption | exact OkA.z (by kernel_rfl) (by kernel_rfl) | refine ⟨rfl, ?_⟩ | refine ⟨?_, ?_⟩)))) | (refine hAl tab_ok rfl ?_ hH rfl ?_; (focus (first | exact wN rfl | exact rfl))) | ((with_reducible refine callH hH ?_); refine ⟨?_, ?_, ?_⟩; rotate_left; (focus (first | (with_reducible exact hrd _))))); clear hH; (first | intro W g hH | intro W hH); ((try simp only [Act.put, pA, pB, pC]))))
  (refine iRet Tryz.results138 tab_ok rfl rfl hH ?_; refine ⟨_, _, rfl, rfl, rfl, ?_⟩)
  exact HQ2.out _ (hH.sub (SubH.drop (SubH.drop SubH.refl)))
theorem hIAddr (i j : Nat) {H1 H2 : HB} (hs : s.size ≤ 100000) (hk : t.k ≤ s.size) (hH : Hp B w0 W H) (hi : nthH H i = some (g, 149, true, [.one (.pointer (some ⟨gr, 0, none⟩)), .one (.int .i64 t.e)])) (hu : updH H i [.one (.pointer (some ⟨gr, 0, none⟩)), .one (.int .i64 (stepS s 4 t).e)] = some H1) (hj : nthH H1 j = some (gr, 117, true, rdSegs s t)) (hu2 : updH H1 j (rdSegs s (stepS s 4 t)) = some H2) (hQ : ∀ W', Hp B w0 W' H2 → Q (.returned (.agg (fls [.many (adL (addrS s 4 t)) 17]).toArray)) W') : Calls Tryz.prog 138 #[.pointer (some ⟨g, 0, none⟩)] W Q :=
  callM2 i j hH hi hu hj hu2 (by decide) (fun H0 h k => iaddr_any hs hk h k) hQ
end
end Go.Proofs.YtnobencogihbnaaGreat
