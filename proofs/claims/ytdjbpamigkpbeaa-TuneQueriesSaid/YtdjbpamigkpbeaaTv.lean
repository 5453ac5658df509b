/-
  'TuneQueries': any good tune's general query, of any version: the law.
-/
import Derived.Test.YtdjbpamigkpbeaaTp
namespace Go.Proofs.Ytdjbpamigkpbeaa
open Go.ChangeShapes Go.WideShapes Go.ChangeAt Go.RowKit
set_option linter.unusedVariables false
set_option linter.unusedSimpArgs false
attribute [local irreducible] wpList

section
variable {w : World} {v6 : Bool} {n r l c : Int} {E p : Nat}
theorem verQ_bd (v6 : Bool) (n : Int) : 1 ≤ verQ v6 n ∧ verQ v6 n ≤ lastQ v6 := by
  unfold verQ lastQ
  cases v6
  · simp only [Bool.false_eq_true, if_false]; split; omega; split <;> omega
  · simp only [if_true]; split; omega; split <;> omega
theorem query_any (h1 : 1 ≤ p) (h2 : p ≤ 31744) (hr : 1 ≤ r ∧ r ≤ 7) (hE : E ≤ 317440) : Gives Try.prog 24 #[.agg (fls [.one (.int .i64 r), .one (.int .i64 (E : Int)), .one (.int .i64 (p : Int)), .one (.int .i64 l), .one (.int .i64 c)]).toArray, .bool v6, .int .i64 n] w (.agg (fls (tkS (qT v6 (verQ v6 n) r E p) none 0 none 0)).toArray) := by
  cases v6
  · rcases (show n ≤ 1 ∨ n = 2 ∨ 3 ≤ n by omega) with h | h | h
    · rw [show verQ false n = 1 by unfold verQ lastQ; simp; omega]
      have := query41_any (w := w) (l := l) (c := c) h1 h2 hr hE h
      simpa [qT, lastQ] using this
    · rw [show verQ false n = 2 by unfold verQ lastQ; simp; omega]
      have := query42_any (w := w) (l := l) (c := c) h1 h2 hr hE h
      simpa [qT, lastQ] using this
    · rw [show verQ false n = 3 by unfold verQ lastQ; simp; omega]
      have := query43_any (w := w) (l := l) (c := c) h1 h2 hr hE h
      simpa [qT, lastQ] using this
  · rcases (show n ≤ 1 ∨ 2 ≤ n by omega) with h | h
    · rw [show verQ true n = 1 by unfold verQ lastQ; simp; omega]
      have := query61_any (w := w) (l := l) (c := c) h1 h2 hr hE h
      simpa [qT, lastQ] using this
    · rw [show verQ true n = 2 by unfold verQ lastQ; simp; omega]
      have := query62_any (w := w) (l := l) (c := c) h1 h2 hr hE h
      simpa [qT, lastQ] using this
theorem rquery_any (h1 : 1 ≤ p) (h2 : p ≤ 31744) (hr : 1 ≤ r ∧ r ≤ 7) (hE : E ≤ 317440) : Gives Try.prog 26 #[.agg (fls [.one (.int .i64 r), .one (.int .i64 (E : Int)), .one (.int .i64 (p : Int)), .one (.int .i64 l), .one (.int .i64 c)]).toArray, .bool v6, .int .i64 n] w (.agg (fls (tkS (qT v6 (verQ v6 n) r E p) none 0 none 0)).toArray) := by
  cases v6
  · rcases (show n ≤ 1 ∨ n = 2 ∨ 3 ≤ n by omega) with h | h | h
    · rw [show verQ false n = 1 by unfold verQ lastQ; simp; omega]
      have := rquery41_any (w := w) (l := l) (c := c) h1 h2 hr hE h
      simpa [qT, lastQ] using this
    · rw [show verQ false n = 2 by unfold verQ lastQ; simp; omega]
      have := rquery42_any (w := w) (l := l) (c := c) h1 h2 hr hE h
      simpa [qT, lastQ] using this
    · rw [show verQ false n = 3 by unfold verQ lastQ; simp; omega]
      have := rquery43_any (w := w) (l := l) (c := c) h1 h2 hr hE h
      simpa [qT, lastQ] using this
  · rcases (show n ≤ 1 ∨ 2 ≤ n by omega) with h | h
    · rw [show verQ true n = 1 by unfold verQ lastQ; simp; omega]
      have := rquery61_any (w := w) (l := l) (c := c) h1 h2 hr hE h
      simpa [qT, lastQ] using this
    · rw [show verQ true n = 2 by unfold verQ lastQ; simp; omega]
      have := rquery62_any (w := w) (l := l) (c := c) h1 h2 hr hE h
      simpa [qT, lastQ] using this
theorem cod_self {u r n : Nat} (hu : 0 < u) (h : r < 16 * u) (k : IsCode u (valN u r) n) : n = r := k.unique hu (IsCode.self hu h)
theorem ex8_val (r : Nat) (h : r ≤ 255) : ex8 ((valN 16 r : Nat) : Int) = true := by
  have := cod_self (u := 16) (by omega) (show r < 16 * 16 by omega) (by have := cod8_is ((valN 16 r : Nat) : Int); rwa [Int.toNat_natCast] at this)
  unfold ex8
  rw [this]
  simp
theorem val_cod8 (k : Nat) : valN 16 (cod8 (k : Int)) ≤ k := by have := (cod8_is (k : Int)).2.1; rwa [Int.toNat_natCast] at this
theorem val_cod16 (k : Nat) : valN 4096 (cod16 (k : Int)) ≤ k := by have := (cod16_is (k : Int)).2.1; rwa [Int.toNat_natCast] at this
theorem zero6_z : zero6 ⟨true, zero16, rfl⟩ = true := by simp [zero6, zeroA]
theorem ex16_val (r : Nat) (h : r ≤ 65535) : (valN 4096 (cod16 ((valN 4096 r : Nat) : Int)) : Int) = ((valN 4096 r : Nat) : Int) := by
  have := cod_self (u := 4096) (by omega) (show r < 16 * 4096 by omega) (by have := cod16_is ((valN 4096 r : Nat) : Int); rwa [Int.toNat_natCast] at this)
  rw [this]
theorem ex8_val' (r : Nat) (h : r ≤ 255) : (valN 16 (cod8 ((valN 16 r : Nat) : Int)) : Int) = ((valN 16 r : Nat) : Int) := by
  have := cod_self (u := 16) (by omega) (show r < 16 * 16 by omega) (by have := cod8_is ((valN 16 r : Nat) : Int); rwa [Int.toNat_natCast] at this)
  rw [this]
theorem z_eq : (⟨false, zero16, rfl⟩ : Ad) = Ad.z := rfl
/-- such a query is a good talk -/
theorem qT_good {v : Int} (h1 : 1 ≤ p) (h2 : p ≤ 31744) (hr : 1 ≤ r ∧ r ≤ 7) (hv : 1 ≤ v ∧ v ≤ lastQ v6) : talkT (qT v6 v r E p) = true := by
  have hr0 : r ≠ 0 := by omega
  cases v6
  · unfold lastQ at hv
    simp only [Bool.false_eq_true, if_false] at hv
    rcases (show v = 1 ∨ v = 2 ∨ v = 3 by omega) with rfl | rfl | rfl
    · simp [talkT, qT, good4, lastQ, mostV, z_eq]
    · by_cases hp : p ≤ 255
      · simp [talkT, qT, good4, lastQ, mostV, z_eq, hp]; omega
      · simp [talkT, qT, good4, lastQ, mostV, z_eq, hp]
    · have e1 := ex8_val (cod8 (p : Int)) (cod8_le _)
      have e2 := ex8_val (cod8 ((E / 10 : Nat) : Int)) (cod8_le _)
      have e3 : srcs4 [] = true := rfl
      simp only [talkT, qT, good4, lastQ, mostV, z_eq, Bool.false_eq_true, if_false, if_true] at *
      generalize E / 10 = d at *
      simp [e1, e2, e3]
      omega
  · unfold lastQ at hv
    simp only [if_true] at hv
    have ez := zero6_z
    rcases (show v = 1 ∨ v = 2 by omega) with rfl | rfl
    · by_cases hp : 100 * p ≤ 65535
      · simp [talkT, qT, good6, lastQ, mostV, hp, ez]; omega
      · simp [talkT, qT, good6, lastQ, mostV, hp, ez]
    · have e1 := ex16_val (cod16 ((100 * p : Nat) : Int)) (cod16_le _)
      have e2 := ex8_val' (cod8 ((E / 10 : Nat) : Int)) (cod8_le _)
      have e3 : srcs6 [] = true := rfl
      simp only [talkT, qT, good6, lastQ, mostV, if_true] at *
      simp only [show ((2 : Int) = 1) = False by simp, if_false, e1, e2, e3, ez]
      simp
      omega
theorem qT_ok {v : Int} (h1 : 1 ≤ p) (h2 : p ≤ 31744) (hr : 1 ≤ r ∧ r ≤ 7) (hE : E ≤ 317440) (hv : 1 ≤ v ∧ v ≤ lastQ v6) : (qT v6 v r E p).Ok := by
  have a := val_cod8 p
  have b := val_cod16 (100 * p)
  have d := val_cod8 (E / 10)
  have hl : lastQ v6 ≤ 3 := by unfold lastQ; split <;> omega
  refine ⟨?_, ?_, ?_, ?_, ?_, fun r hr => by simp [qT] at hr⟩
  · show inI v; unfold inI; omega
  · show inI 1; unfold inI; omega
  · show inI (mostV v6 v p)
    unfold mostV inI
    split
    · split
      · split <;> omega
      · omega
    · split
      · omega
      · split
        · split <;> omega
        · omega
  · show inI (if v = lastQ v6 then r else 0)
    unfold inI
    split <;> omega
  · show inI (if v = lastQ v6 then (valN 16 (cod8 ((E / 10 : Nat) : Int)) : Int) else 0)
    unfold inI
    split <;> omega
/-- it is answered as soon as the tune says, or sooner -/
theorem qT_resp {v : Int} (h1 : 1 ≤ p) (hv : 1 ≤ v ∧ v ≤ lastQ v6) : respT (qT v6 v r E p) ≤ (p : Int) ∨ (v6 = false ∧ v = 1) := by
  have a := val_cod8 p
  have b := val_cod16 (100 * p)
  cases v6
  · by_cases h : v = 1
    · exact .inr ⟨rfl, h⟩
    · refine .inl ?_
      simp only [respT, qT, Bool.false_eq_true, if_false, h, mostV]
      split
      · split <;> omega
      · omega
  · refine .inl ?_
    simp only [respT, qT, if_true, mostV]
    split
    · split <;> omega
    · omega
set_option maxHeartbeats 2000000 in
set_option maxRecDepth 100000 in
theorem queries_walk {r e p l c n : Int} : Gives Try.prog 6 #[.agg (fls [.one (.int .i64 r), .one (.int .i64 e), .one (.int .i64 p), .one (.int .i64 l), .one (.int .i64 c)]).toArray, .bool v6, .int .i64 n] w (.bool true) := by
  have hg : ∀ w, Gives Try.prog 8 #[.agg (fls [.one (.int .i64 r), .one (.int .i64 e), .one (.int .i64 p), .one (.int .i64 l), .one (.int .i64 c)]).toArray] w (.bool (tGood r e p l c)) := fun w => rgood_any
  refine Gives.of ?_
  have hH := Hp.refl w
  cases htg : tGood r e p l c
  · rw [htg] at hg
    clear htg
    go_enter Try.func6, Try.ntmps6
    go_wp2_with (first | ((first | (refine gL rfl ?_; first | (refine hL1 tab_ok 0 rfl ?_ rfl hH rfl rfl rfl rfl ?_; (focus (first | exact wN rfl | exact rfl))) | (refine hLR tab_ok 0 rfl ?_ rfl hH rfl rfl rfl rfl ?_; (focus (first | exact wN rfl | exact rfl))) | (refine hL1i tab_ok 0 rfl ?_ rfl hH rfl rfl rfl rfl ?_; (focus (first | exact wN rfl | exact rfl)); refine ⟨?_, ?_, ?_⟩; rotate_left; (focus assumption))) | (refine gS rfl ?_; first | (refine hS1 tab_ok 0 rfl ?_ rfl rfl hH rfl rfl rfl rfl rfl ?_; (focus (first | exact wN rfl | exact rfl))) | (refine hSR tab_ok 0 rfl ?_ rfl rfl hH rfl rfl rfl rfl rfl ?_ ?_; (focus (first | exact wN rfl | exact rfl)); (focus (repeat (first | exact trivial | assumption | exact OkA.z (by kernel_rfl) (by kernel_rfl) | refine ⟨rfl, ?_⟩ | refine ⟨?_, ?_⟩))))) | (refine hAl tab_ok rfl ?_ hH rfl ?_; (focus (first | exact wN rfl | exact rfl))) | (refine hBx1 rfl ?_ rfl hH ?_; (focus (first | exact wN rfl | exact rfl))) | (refine hBx rfl ?_ rfl hH ?_ ?_; (focus (first | exact wN rfl | exact rfl)); (focus (repeat (first | exact trivial | assumption | exact OkA.z (by kernel_rfl) (by kernel_rfl) | refine ⟨rfl, ?_⟩ | refine ⟨?_, ?_⟩)))) | (refine hBd tab_ok rfl ?_ rfl rfl rfl hH ?_; (focus (first | exact wN rfl | exact rfl)); refine ⟨?_, ?_, ?_⟩; rotate_left; (focus (repeat (first | exact BR.nil | refine BR.one rfl rfl rfl ?_ | (refine BR.row rfl rfl rfl rfl ?_ ?_; (focus (repeat (first | exact trivial | assumption | exact OkA.z (by kernel_rfl) (by kernel_rfl) | refine ⟨rfl, ?_⟩ | refine ⟨?_, ?_⟩)))))))) | ((with_reducible refine callH hH ?_); refine ⟨?_, ?_, ?_⟩; rotate_left; (focus (first | (with_reducible exact hg _) | (with_reducible exact lives14_any))))); clear hH; (first | intro W g hH | intro W hH); (try simp only [Act.put, List.setIfInBounds_toArray, List.set_cons_succ, List.set_cons_zero])))
    go_ret
    exact ⟨rfl, hH.below⟩
  rw [htg] at hg
  have hb := tGood_iff.1 htg
  clear htg
  obtain ⟨E, rfl⟩ := Int.eq_ofNat_of_zero_le (show 0 ≤ e by omega)
  obtain ⟨P, rfl⟩ := Int.eq_ofNat_of_zero_le (show 0 ≤ p by omega)
  have h1 : 1 ≤ P := by omega
  have h2 : P ≤ 31744 := by omega
  have hr : 1 ≤ r ∧ r ≤ 7 := by omega
  have hE : E ≤ 317440 := by omega
  have hv := verQ_bd v6 n
  have q1 : ∀ w, Gives Try.prog 24 #[.agg (fls [.one (.int .i64 r), .one (.int .i64 (E : Int)), .one (.int .i64 (P : Int)), .one (.int .i64 l), .one (.int .i64 c)]).toArray, .bool v6, .int .i64 n] w (.agg (fls (tkS (qT v6 (verQ v6 n) r E P) none 0 none 0)).toArray) := fun w => query_any h1 h2 hr hE
  have q2 : ∀ w, Gives Try.prog 26 #[.agg (fls [.one (.int .i64 r), .one (.int .i64 (E : Int)), .one (.int .i64 (P : Int)), .one (.int .i64 l), .one (.int .i64 c)]).toArray, .bool v6, .int .i64 n] w (.agg (fls (tkS (qT v6 (verQ v6 n) r E P) none 0 none 0)).toArray) := fun w => rquery_any h1 h2 hr hE
  have hok := qT_ok h1 h2 hr hE hv
  have hgood := qT_good (E := E) h1 h2 hr hv
  have hresp : respT (qT v6 (verQ v6 n) r E P) ≤ (P : Int) ∨ (v6 = false ∧ (qT v6 (verQ v6 n) r E P).ver = 1) := qT_resp (r := r) (E := E) h1 hv
  have e1 : (qT v6 (verQ v6 n) r E P).src = [] := rfl
  have e2 : (qT v6 (verQ v6 n) r E P).recs = [] := rfl
  have e3 : (qT v6 (verQ v6 n) r E P).v6 = v6 := rfl
  have e4 : (qT v6 (verQ v6 n) r E P).ver = verQ v6 n := rfl
  clear h1 h2 hE hv hb hr e4
  generalize qT v6 (verQ v6 n) r E P = T at *
  have a1 : ∀ W, AdsAt W none T.src := fun W => by rw [e1]; exact AdsAt.nil
  have a2 : ∀ W, RcsAt W none T.recs := fun W => by rw [e2]; exact RcsAt.nil
  have n1 : T.src.length = 0 := by rw [e1]; rfl
  have n2 : T.recs.length = 0 := by rw [e2]; rfl
  have b6 : T.v6 = true → 0 ≤ T.resp ∧ T.resp ≤ 8387584 := fun h => good6_resp (by unfold talkT at hgood; rw [if_pos h] at hgood; exact hgood)
  have k1 : ∀ W, Gives Try.prog 19 #[.agg (fls (tkS T none 0 none 0)).toArray] W (.bool true) := fun W => by have := rTalk_any (sc := 0) (rc := 0) hok (a1 W) (a2 W); rwa [hgood] at this
  have k2 : ∀ W, Gives Try.prog 25 #[.agg (fls (tkS T none 0 none 0)).toArray, .agg (fls (tkS T none 0 none 0)).toArray] W (.bool true) := fun W => by have := same_any (sc := 0) (rc := 0) (sc' := 0) (rc' := 0) (a1 W) (a2 W) (a1 W) (a2 W); rwa [sameT_self] at this
  have k3 : ∀ W, Gives Try.prog 20 #[.agg (fls (tkS T none 0 none 0)).toArray] W (.int .i64 (respT T)) := fun W => tresp_any b6
  have k4 : ∀ W, Gives Try.prog 21 #[.agg (fls (tkS T none 0 none 0)).toArray] W (.int .i64 (respT T)) := fun W => rresp_any b6
  clear a1 a2 b6 hok hgood
  obtain ⟨v6', ver, kind, resp, g, quiet, rob, every, src, recs⟩ := T
  simp only at e1 e2 e3
  subst e1 e2 e3
  generalize respT ⟨v6', ver, kind, resp, g, quiet, rob, every, [], []⟩ = rt at *
  simp only [tkS, List.length_nil] at *
  have oG := adL_ok g
  generalize adL g = G at *
  go_enter Try.func6, Try.ntmps6
  by_cases hle : rt ≤ (P : Int)
  · have dle : decide (rt ≤ (P : Int)) = true := decide_eq_true hle
    clear hresp
    go_wp2_with (first | ((first | (refine gL rfl ?_; first | (refine hL1 tab_ok 0 rfl ?_ rfl hH rfl rfl rfl rfl ?_; (focus (first | exact wN rfl | exact rfl))) | (refine hL1 tab_ok 1 rfl ?_ rfl hH rfl rfl rfl rfl ?_; (focus (first | exact wN rfl | exact rfl))) | (refine hLR tab_ok 0 rfl ?_ rfl hH rfl rfl rfl rfl ?_; (focus (first | exact wN rfl | exact rfl))) | (refine hLR tab_ok 1 rfl ?_ rfl hH rfl rfl rfl rfl ?_; (focus (first | exact wN rfl | exact rfl))) | (refine hL1i tab_ok 0 rfl ?_ rfl hH rfl rfl rfl rfl ?_; (focus (first | exact wN rfl | exact rfl)); refine ⟨?_, ?_, ?_⟩; rotate_left; (focus assumption)) | (refine hL1i tab_ok 1 rfl ?_ rfl hH rfl rfl rfl rfl ?_; (focus (first | exact wN rfl | exact rfl)); refine ⟨?_, ?_, ?_⟩; rotate_left; (focus assumption))) | (refine gS rfl ?_; first | (refine hS1 tab_ok 0 rfl ?_ rfl rfl hH rfl rfl rfl rfl rfl ?_; (focus (first | exact wN rfl | exact rfl))) | (refine hS1 tab_ok 1 rfl ?_ rfl rfl hH rfl rfl rfl rfl rfl ?_; (focus (first | exact wN rfl | exact rfl))) | (refine hSR tab_ok 0 rfl ?_ rfl rfl hH rfl rfl rfl rfl rfl ?_ ?_; (focus (first | exact wN rfl | exact rfl)); (focus (repeat (first | exact trivial | assumption | exact OkA.z (by kernel_rfl) (by kernel_rfl) | refine ⟨rfl, ?_⟩ | refine ⟨?_, ?_⟩)))) | (refine hSR tab_ok 1 rfl ?_ rfl rfl hH rfl rfl rfl rfl rfl ?_ ?_; (focus (first | exact wN rfl | exact rfl)); (focus (repeat (first | exact trivial | assumption | exact OkA.z (by kernel_rfl) (by kernel_rfl) | refine ⟨rfl, ?_⟩ | refine ⟨?_, ?_⟩))))) | (refine hAl tab_ok rfl ?_ hH rfl ?_; (focus (first | exact wN rfl | exact rfl))) | (refine hBx1 rfl ?_ rfl hH ?_; (focus (first | exact wN rfl | exact rfl))) | (refine hBx rfl ?_ rfl hH ?_ ?_; (focus (first | exact wN rfl | exact rfl)); (focus (repeat (first | exact trivial | assumption | exact OkA.z (by kernel_rfl) (by kernel_rfl) | refine ⟨rfl, ?_⟩ | refine ⟨?_, ?_⟩)))) | (refine hBd tab_ok rfl ?_ rfl rfl rfl hH ?_; (focus (first | exact wN rfl | exact rfl)); refine ⟨?_, ?_, ?_⟩; rotate_left; (focus (repeat (first | exact BR.nil | refine BR.one rfl rfl rfl ?_ | (refine BR.row rfl rfl rfl rfl ?_ ?_; (focus (repeat (first | exact trivial | assumption | exact OkA.z (by kernel_rfl) (by kernel_rfl) | refine ⟨rfl, ?_⟩ | refine ⟨?_, ?_⟩)))))))) | ((with_reducible refine callH hH ?_); refine ⟨?_, ?_, ?_⟩; rotate_left; (focus (first | (with_reducible exact hg _) | (with_reducible exact q1 _) | (with_reducible exact lives14_any))))); clear hH; (first | intro W g hH | intro W hH); (try simp only [Act.put, List.setIfInBounds_toArray, List.set_cons_succ, List.set_cons_zero])))
    ((with_reducible refine regQ hH (by kernel_rfl) (by kernel_rfl) ?_); intro hne; (repeat (first | (go_big_quiet_want; (first | (refine gQ rfl ?_; first | refine qL1 tab_ok 0 rfl rfl rfl rfl rfl rfl ?_ | refine qL1 tab_ok 1 rfl rfl rfl rfl rfl rfl ?_ | refine qLR tab_ok 0 rfl rfl rfl rfl rfl rfl ?_ | refine qLR tab_ok 1 rfl rfl rfl rfl rfl rfl ?_ | (refine qL1i tab_ok 0 rfl rfl rfl rfl rfl rfl ?_; refine ⟨?_, ?_, ?_⟩; rotate_left; (focus assumption)) | (refine qL1i tab_ok 1 rfl rfl rfl rfl rfl rfl ?_; refine ⟨?_, ?_, ?_⟩; rotate_left; (focus assumption))) | (refine qBd tab_ok rfl rfl rfl rfl ?_; refine ⟨?_, ?_, ?_⟩; rotate_left; (focus (repeat (first | exact BR.nil | refine BR.one rfl rfl rfl ?_ | (refine BR.row rfl rfl rfl rfl ?_ ?_; (focus (repeat (first | exact trivial | assumption | exact OkA.z (by kernel_rfl) (by kernel_rfl) | refine ⟨rfl, ?_⟩ | refine ⟨?_, ?_⟩))))))))); (try simp only [Act.put, List.setIfInBounds_toArray, List.set_cons_succ, List.set_cons_zero]); go_big_quiet_on) | go_big_quiet_step (((with_reducible apply callQ); first | (with_reducible exact q2 _) | (with_reducible exact k1 _) | (with_reducible exact k2 _))))); refine wpQuiet_nil ?_; clear hne hH; intro W hH)
    go_wp2_with (first | ((first | (refine gL rfl ?_; first | (refine hL1 tab_ok 0 rfl ?_ rfl hH rfl rfl rfl rfl ?_; (focus (first | exact wN rfl | exact rfl))) | (refine hL1 tab_ok 1 rfl ?_ rfl hH rfl rfl rfl rfl ?_; (focus (first | exact wN rfl | exact rfl))) | (refine hLR tab_ok 0 rfl ?_ rfl hH rfl rfl rfl rfl ?_; (focus (first | exact wN rfl | exact rfl))) | (refine hLR tab_ok 1 rfl ?_ rfl hH rfl rfl rfl rfl ?_; (focus (first | exact wN rfl | exact rfl))) | (refine hL1i tab_ok 0 rfl ?_ rfl hH rfl rfl rfl rfl ?_; (focus (first | exact wN rfl | exact rfl)); refine ⟨?_, ?_, ?_⟩; rotate_left; (focus assumption)) | (refine hL1i tab_ok 1 rfl ?_ rfl hH rfl rfl rfl rfl ?_; (focus (first | exact wN rfl | exact rfl)); refine ⟨?_, ?_, ?_⟩; rotate_left; (focus assumption))) | (refine gS rfl ?_; first | (refine hS1 tab_ok 0 rfl ?_ rfl rfl hH rfl rfl rfl rfl rfl ?_; (focus (first | exact wN rfl | exact rfl))) | (refine hS1 tab_ok 1 rfl ?_ rfl rfl hH rfl rfl rfl rfl rfl ?_; (focus (first | exact wN rfl | exact rfl))) | (refine hSR tab_ok 0 rfl ?_ rfl rfl hH rfl rfl rfl rfl rfl ?_ ?_; (focus (first | exact wN rfl | exact rfl)); (focus (repeat (first | exact trivial | assumption | exact OkA.z (by kernel_rfl) (by kernel_rfl) | refine ⟨rfl, ?_⟩ | refine ⟨?_, ?_⟩)))) | (refine hSR tab_ok 1 rfl ?_ rfl rfl hH rfl rfl rfl rfl rfl ?_ ?_; (focus (first | exact wN rfl | exact rfl)); (focus (repeat (first | exact trivial | assumption | exact OkA.z (by kernel_rfl) (by kernel_rfl) | refine ⟨rfl, ?_⟩ | refine ⟨?_, ?_⟩))))) | (refine hAl tab_ok rfl ?_ hH rfl ?_; (focus (first | exact wN rfl | exact rfl))) | (refine hBx1 rfl ?_ rfl hH ?_; (focus (first | exact wN rfl | exact rfl))) | (refine hBx rfl ?_ rfl hH ?_ ?_; (focus (first | exact wN rfl | exact rfl)); (focus (repeat (first | exact trivial | assumption | exact OkA.z (by kernel_rfl) (by kernel_rfl) | refine ⟨rfl, ?_⟩ | refine ⟨?_, ?_⟩)))) | (refine hBd tab_ok rfl ?_ rfl rfl rfl hH ?_; (focus (first | exact wN rfl | exact rfl)); refine ⟨?_, ?_, ?_⟩; rotate_left; (focus (repeat (first | exact BR.nil | refine BR.one rfl rfl rfl ?_ | (refine BR.row rfl rfl rfl rfl ?_ ?_; (focus (repeat (first | exact trivial | assumption | exact OkA.z (by kernel_rfl) (by kernel_rfl) | refine ⟨rfl, ?_⟩ | refine ⟨?_, ?_⟩)))))))) | ((with_reducible refine callH hH ?_); refine ⟨?_, ?_, ?_⟩; rotate_left; (focus (first | (with_reducible exact k3 _) | (with_reducible exact k4 _) | (with_reducible exact lives14_any))))); clear hH; (first | intro W g hH | intro W hH); (try simp only [Act.put, List.setIfInBounds_toArray, List.set_cons_succ, List.set_cons_zero])))
    go_ret
    exact ⟨rfl, hH.below⟩
  · have dle : decide (rt ≤ (P : Int)) = false := decide_eq_false hle
    obtain ⟨rfl, rfl⟩ := hresp.resolve_left hle
    have hlt : (P : Int) < rt := by omega
    clear hle hresp
    go_wp2_with (first | ((first | (refine gL rfl ?_; first | (refine hL1 tab_ok 0 rfl ?_ rfl hH rfl rfl rfl rfl ?_; (focus (first | exact wN rfl | exact rfl))) | (refine hL1 tab_ok 1 rfl ?_ rfl hH rfl rfl rfl rfl ?_; (focus (first | exact wN rfl | exact rfl))) | (refine hLR tab_ok 0 rfl ?_ rfl hH rfl rfl rfl rfl ?_; (focus (first | exact wN rfl | exact rfl))) | (refine hLR tab_ok 1 rfl ?_ rfl hH rfl rfl rfl rfl ?_; (focus (first | exact wN rfl | exact rfl))) | (refine hL1i tab_ok 0 rfl ?_ rfl hH rfl rfl rfl rfl ?_; (focus (first | exact wN rfl | exact rfl)); refine ⟨?_, ?_, ?_⟩; rotate_left; (focus assumption)) | (refine hL1i tab_ok 1 rfl ?_ rfl hH rfl rfl rfl rfl ?_; (focus (first | exact wN rfl | exact rfl)); refine ⟨?_, ?_, ?_⟩; rotate_left; (focus assumption))) | (refine gS rfl ?_; first | (refine hS1 tab_ok 0 rfl ?_ rfl rfl hH rfl rfl rfl rfl rfl ?_; (focus (first | exact wN rfl | exact rfl))) | (refine hS1 tab_ok 1 rfl ?_ rfl rfl hH rfl rfl rfl rfl rfl ?_; (focus (first | exact wN rfl | exact rfl))) | (refine hSR tab_ok 0 rfl ?_ rfl rfl hH rfl rfl rfl rfl rfl ?_ ?_; (focus (first | exact wN rfl | exact rfl)); (focus (repeat (first | exact trivial | assumption | exact OkA.z (by kernel_rfl) (by kernel_rfl) | refine ⟨rfl, ?_⟩ | refine ⟨?_, ?_⟩)))) | (refine hSR tab_ok 1 rfl ?_ rfl rfl hH rfl rfl rfl rfl rfl ?_ ?_; (focus (first | exact wN rfl | exact rfl)); (focus (repeat (first | exact trivial | assumption | exact OkA.z (by kernel_rfl) (by kernel_rfl) | refine ⟨rfl, ?_⟩ | refine ⟨?_, ?_⟩))))) | (refine hAl tab_ok rfl ?_ hH rfl ?_; (focus (first | exact wN rfl | exact rfl))) | (refine hBx1 rfl ?_ rfl hH ?_; (focus (first | exact wN rfl | exact rfl))) | (refine hBx rfl ?_ rfl hH ?_ ?_; (focus (first | exact wN rfl | exact rfl)); (focus (repeat (first | exact trivial | assumption | exact OkA.z (by kernel_rfl) (by kernel_rfl) | refine ⟨rfl, ?_⟩ | refine ⟨?_, ?_⟩)))) | (refine hBd tab_ok rfl ?_ rfl rfl rfl hH ?_; (focus (first | exact wN rfl | exact rfl)); refine ⟨?_, ?_, ?_⟩; rotate_left; (focus (repeat (first | exact BR.nil | refine BR.one rfl rfl rfl ?_ | (refine BR.row rfl rfl rfl rfl ?_ ?_; (focus (repeat (first | exact trivial | assumption | exact OkA.z (by kernel_rfl) (by kernel_rfl) | refine ⟨rfl, ?_⟩ | refine ⟨?_, ?_⟩)))))))) | ((with_reducible refine callH hH ?_); refine ⟨?_, ?_, ?_⟩; rotate_left; (focus (first | (with_reducible exact hg _) | (with_reducible exact q1 _) | (with_reducible exact lives14_any))))); clear hH; (first | intro W g hH | intro W hH); (try simp only [Act.put, List.setIfInBounds_toArray, List.set_cons_succ, List.set_cons_zero])))
    ((with_reducible refine regQ hH (by kernel_rfl) (by kernel_rfl) ?_); intro hne; (repeat (first | (go_big_quiet_want; (first | (refine gQ rfl ?_; first | refine qL1 tab_ok 0 rfl rfl rfl rfl rfl rfl ?_ | refine qL1 tab_ok 1 rfl rfl rfl rfl rfl rfl ?_ | refine qLR tab_ok 0 rfl rfl rfl rfl rfl rfl ?_ | refine qLR tab_ok 1 rfl rfl rfl rfl rfl rfl ?_ | (refine qL1i tab_ok 0 rfl rfl rfl rfl rfl rfl ?_; refine ⟨?_, ?_, ?_⟩; rotate_left; (focus assumption)) | (refine qL1i tab_ok 1 rfl rfl rfl rfl rfl rfl ?_; refine ⟨?_, ?_, ?_⟩; rotate_left; (focus assumption))) | (refine qBd tab_ok rfl rfl rfl rfl ?_; refine ⟨?_, ?_, ?_⟩; rotate_left; (focus (repeat (first | exact BR.nil | refine BR.one rfl rfl rfl ?_ | (refine BR.row rfl rfl rfl rfl ?_ ?_; (focus (repeat (first | exact trivial | assumption | exact OkA.z (by kernel_rfl) (by kernel_rfl) | refine ⟨rfl, ?_⟩ | refine ⟨?_, ?_⟩))))))))); (try simp only [Act.put, List.setIfInBounds_toArray, List.set_cons_succ, List.set_cons_zero]); go_big_quiet_on) | go_big_quiet_step (((with_reducible apply callQ); first | (with_reducible exact q2 _) | (with_reducible exact k1 _) | (with_reducible exact k2 _))))); refine wpQuiet_nil ?_; clear hne hH; intro W hH)
    go_wp2_with (first | ((first | (refine gL rfl ?_; first | (refine hL1 tab_ok 0 rfl ?_ rfl hH rfl rfl rfl rfl ?_; (focus (first | exact wN rfl | exact rfl))) | (refine hL1 tab_ok 1 rfl ?_ rfl hH rfl rfl rfl rfl ?_; (focus (first | exact wN rfl | exact rfl))) | (refine hLR tab_ok 0 rfl ?_ rfl hH rfl rfl rfl rfl ?_; (focus (first | exact wN rfl | exact rfl))) | (refine hLR tab_ok 1 rfl ?_ rfl hH rfl rfl rfl rfl ?_; (focus (first | exact wN rfl | exact rfl))) | (refine hL1i tab_ok 0 rfl ?_ rfl hH rfl rfl rfl rfl ?_; (focus (first | exact wN rfl | exact rfl)); refine ⟨?_, ?_, ?_⟩; rotate_left; (focus assumption)) | (refine hL1i tab_ok 1 rfl ?_ rfl hH rfl rfl rfl rfl ?_; (focus (first | exact wN rfl | exact rfl)); refine ⟨?_, ?_, ?_⟩; rotate_left; (focus assumption))) | (refine gS rfl ?_; first | (refine hS1 tab_ok 0 rfl ?_ rfl rfl hH rfl rfl rfl rfl rfl ?_; (focus (first | exact wN rfl | exact rfl))) | (refine hS1 tab_ok 1 rfl ?_ rfl rfl hH rfl rfl rfl rfl rfl ?_; (focus (first | exact wN rfl | exact rfl))) | (refine hSR tab_ok 0 rfl ?_ rfl rfl hH rfl rfl rfl rfl rfl ?_ ?_; (focus (first | exact wN rfl | exact rfl)); (focus (repeat (first | exact trivial | assumption | exact OkA.z (by kernel_rfl) (by kernel_rfl) | refine ⟨rfl, ?_⟩ | refine ⟨?_, ?_⟩)))) | (refine hSR tab_ok 1 rfl ?_ rfl rfl hH rfl rfl rfl rfl rfl ?_ ?_; (focus (first | exact wN rfl | exact rfl)); (focus (repeat (first | exact trivial | assumption | exact OkA.z (by kernel_rfl) (by kernel_rfl) | refine ⟨rfl, ?_⟩ | refine ⟨?_, ?_⟩))))) | (refine hAl tab_ok rfl ?_ hH rfl ?_; (focus (first | exact wN rfl | exact rfl))) | (refine hBx1 rfl ?_ rfl hH ?_; (focus (first | exact wN rfl | exact rfl))) | (refine hBx rfl ?_ rfl hH ?_ ?_; (focus (first | exact wN rfl | exact rfl)); (focus (repeat (first | exact trivial | assumption | exact OkA.z (by kernel_rfl) (by kernel_rfl) | refine ⟨rfl, ?_⟩ | refine ⟨?_, ?_⟩)))) | (refine hBd tab_ok rfl ?_ rfl rfl rfl hH ?_; (focus (first | exact wN rfl | exact rfl)); refine ⟨?_, ?_, ?_⟩; rotate_left; (focus (repeat (first | exact BR.nil | refine BR.one rfl rfl rfl ?_ | (refine BR.row rfl rfl rfl rfl ?_ ?_; (focus (repeat (first | exact trivial | assumption | exact OkA.z (by kernel_rfl) (by kernel_rfl) | refine ⟨rfl, ?_⟩ | refine ⟨?_, ?_⟩)))))))) | ((with_reducible refine callH hH ?_); refine ⟨?_, ?_, ?_⟩; rotate_left; (focus (first | (with_reducible exact k3 _) | (with_reducible exact k4 _) | (with_reducible exact lives14_any))))); clear hH; (first | intro W g hH | intro W hH); (try simp only [Act.put, List.setIfInBounds_toArray, List.set_cons_succ, List.set_cons_zero])))
    go_ret
    exact ⟨rfl, hH.below⟩
end
theorem tune_open14 {W : World} {base : Nat} {v : Value} (g : Value.okWide Try.prog W .any base 23 v) : ∃ r e p l c : Int, v = .agg (fls [.one (.int .i64 r), .one (.int .i64 e), .one (.int .i64 p), .one (.int .i64 l), .one (.int .i64 c)]).toArray := by
  obtain ⟨cs, rfl, hc⟩ := open_agg_struct (ts := [3, 3, 3, 3, 3]) Try.underlying23 (by kernel_rfl) (by kernel_rfl) g
  obtain ⟨r, cs, rfl, hr, hc⟩ := cellsAll_cons hc
  obtain ⟨e, cs, rfl, he, hc⟩ := cellsAll_cons hc
  obtain ⟨p, cs, rfl, hp, hc⟩ := cellsAll_cons hc
  obtain ⟨l, cs, rfl, hl, hc⟩ := cellsAll_cons hc
  obtain ⟨c, cs, rfl, hcc, hc⟩ := cellsAll_cons hc
  obtain rfl := cellsAll_nil hc
  obtain ⟨r, rfl, _⟩ := cell_i64 Try.underlying3 hr
  obtain ⟨e, rfl, he⟩ := cell_i64 Try.underlying3 he
  obtain ⟨p, rfl, hp⟩ := cell_i64 Try.underlying3 hp
  obtain ⟨l, rfl, _⟩ := cell_i64 Try.underlying3 hl
  obtain ⟨c, rfl, _⟩ := cell_i64 Try.underlying3 hcc
  exact ⟨r, e, p, l, c, rfl⟩
set_option maxRecDepth 100000 in
theorem tuneQueries_lifted (os : Os) (started : os.Started) (H : Type) (enc : TypeId × Value → H) :
    ReturnsInHanded {} Try.checked os 6 .any (Rows.tuneQueriesSpec.pre6 enc Try.prog Try.f6 Rows.tuneQueriesRow.domain false) (Rows.tuneQueriesSpec.post enc Try.prog Try.f6 false true false false) := by
  refine lifted_of_walk (C := Try.checked) (tb := 4) own started (by kernel_rfl) Try.func6
    (ChangeSpec.witness6 (enc := enc) (C := Try.checked) false ⟨#[], #[.agg #[.int .i64 0, .int .i64 0, .int .i64 0, .int .i64 0, .int .i64 0], .bool false, .int .i64 0], []⟩ 8 (by kernel_rfl) (by kernel_rfl) (by kernel_rfl) (by kernel_rfl))
    (by kernel_rfl) Try.underlying4 (by kernel_rfl) (by kernel_rfl) rfl ?_ ?_
  · intro ds hl
    match ds, hl with
    | [d0, d1, d2], _ => exact ⟨rfl, rfl, rfl⟩
  · intro W base args ds ps hval hA hfz
    have hA' : DataW.TrodAll enc Try.prog W 0 (fun _ => true) true Try.f6.params.toList args.toList ds ps := hA
    rw [Try.params6] at hA'
    obtain ⟨v0, vs0, d0, ds0, p0, q0, hargs0, rfl, rfl, h0, r0⟩ := trodAll_cons hA'
    obtain ⟨v1, vs1, d1, ds1, p1, q1, hargs1, rfl, rfl, h1, r1⟩ := trodAll_cons r0
    obtain ⟨v2, vs2, d2, ds2, p2, q2, hargs2, rfl, rfl, h2, r2⟩ := trodAll_cons r1
    obtain ⟨hvs, rfl, rfl⟩ := trodAll_nil r2
    obtain rfl : args = #[v0, v1, v2] := by cases args; simp_all
    have g0 := hval 0 23 v0 rfl rfl
    have g1 := hval 1 4 v1 rfl rfl
    have g2 := hval 2 3 v2 rfl rfl
    obtain ⟨r, e, p, l, c, rfl⟩ := tune_open14 g0
    obtain ⟨v6, rfl⟩ := open_boolv Try.underlying4 g1
    obtain ⟨n, rfl, _⟩ := open_i64 Try.underlying3 g2
    exact queries_walk
theorem tuneQueries_proved : Rows.TuneQueriesSaid :=
  OpenClaim.holds_of_wide 6 Try.f6 rfl rfl rfl rfl rfl rfl rfl ⟨rfl, rfl, rfl, rfl, rfl⟩ rfl rfl rfl rfl rfl (by kernel_rfl) Try.func6 (by kernel_rfl)
    (of_decide_eq_true (by kernel_rfl)) (by unfold Func.isWrapper; first | (rw [if_pos (by decide +kernel)]; kernel_rfl) | (rw [if_neg (by decide +kernel)]; exact ⟨rfl, rfl⟩))
    (fun os started H enc _ => tuneQueries_lifted os started H enc)
end Go.Proofs.Ytdjbpamigkpbeaa
