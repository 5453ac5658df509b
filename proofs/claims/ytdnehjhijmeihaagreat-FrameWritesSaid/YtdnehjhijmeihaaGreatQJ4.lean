/-
  Joined texts: J4.
-/
import Derived.Test.YtdnehjhijmeihaaGreatQJo
namespace Go.Proofs.YtdnehjhijmeihaaGreat
open Go.ChangeShapes Go.WideShapes Go.ChangeAt Go.RowKit
set_option linter.unusedVariables false
set_option linter.unusedSimpArgs false
set_option maxRecDepth 20000
set_option maxHeartbeats 4000000
attribute [local irreducible] wpList ByteArray.extract Int.decLt
def pS4 (tos id ttl pr : Int) (F T : List Value) (al : Bool) (b : ByteArray) : List Seg := [.one (.int .i64 tos), .one (.int .i64 id), .one (.int .i64 ttl), .one (.int .i64 pr), .many F 17, .many T 17, .one (.bool al), .one (.string b)]
noncomputable def pZ4 : List Value := fls (pS4 0 0 0 0 aZ aZ false ⟨#[]⟩)
section
variable {s : ByteArray} {w : World} {b0 b1 b2 b3 b4 b5 b6 b7 b8 b9 N A ID q fo : Nat} {c2 c3 c4 c5 c6 c7 c8 is ok : Bool} {e : Int} {X Y : List Value}
theorem sz4_short (h : s.size < 20) : Gives Tryz.prog 147 #[.string s] w (.tuple #[.int .i64 0, .int .i64 0, .int .i64 3]) := by
  refine Gives.of ?_
  have hH := Hp.refl w
  go_enter Tryz.func147, Tryz.ntmps147
  go_wp2_with (refine st ?_; clear hH; first | intro W g hH | intro W hH)
  go_ret3
  exact ⟨rfl, hH.below⟩
theorem sz4_long (h : 20 ≤ s.size) (hs : s.size ≤ 800) (x0 : ∀ W, (Instr.index 9 (.string s) (.int .i64 0)).run Tryz.prog W = .ok (.int .u8 (b0 : Int)) W) (x2 : ∀ W, (Instr.index 9 (.string s) (.int .i64 2)).run Tryz.prog W = .ok (.int .u8 (b2 : Int)) W) (x3 : ∀ W, (Instr.index 9 (.string s) (.int .i64 3)).run Tryz.prog W = .ok (.int .u8 (b3 : Int)) W) (g0 : b0 < 256) (g2 : b2 < 256) (g3 : b3 < 256)
    (hand : bits .and .u8 (b0 : Int) 15 = (N : Int)) (hN : N < 16) (hor : bits .or .i64 ((b2 : Int) * 256) (b3 : Int) = (A : Int)) (hA : A < 65536)
    (hgood : ∀ w g c, Row w g 9 (fls [.one (.string (s.extract 0 (N * 4)))]).toArray → Gives Tryz.prog 151 #[.slice (some ⟨g, 0, none⟩) 1 c] w (.bool !c5))
    (d2 : ((b0 : Int) / 16 != 4) = c2) (d3 : decide ((N : Int) * 4 < 20) = c3) (d4 : decide ((s.size : Int) < (N : Int) * 4) = c4) (d6 : decide ((A : Int) < (N : Int) * 4) = c6) (d7 : decide ((s.size : Int) < (A : Int)) = c7) :
    Gives Tryz.prog 147 #[.string s] w (.tuple #[.int .i64 (if c2 || (c3 || (c4 || (c5 || (c6 || c7)))) then 0 else (N : Int) * 4), .int .i64 (if c2 || (c3 || (c4 || (c5 || (c6 || c7)))) then 0 else (A : Int)), .int .i64 (if c2 then 5 else if c3 then 2 else if c4 then 3 else if c5 then 4 else if c6 then 2 else if c7 then 3 else 0)]) := by
  refine Gives.of ?_
  have hH := Hp.refl w
  have HG := Lib.hid hgood
  clear hgood
  cases c2; (focus (cases c3; (focus (cases c4; (focus (cases c5; (focus (cases c6; (focus (cases c7))))))))))
  all_goals ((first | have qd3 := of_decide_eq_false d3 | have qd3 := of_decide_eq_true d3 | skip); (first | have qd4 := of_decide_eq_false d4 | have qd4 := of_decide_eq_true d4 | skip); (first | have qd6 := of_decide_eq_false d6 | have qd6 := of_decide_eq_true d6 | skip); (first | have qd7 := of_decide_eq_false d7 | have qd7 := of_decide_eq_true d7 | skip))
  all_goals go_enter Tryz.func147, Tryz.ntmps147
  all_goals go_wp2_with (refine st ?_; clear hH; first | intro W g hH | intro W hH)
  all_goals (refine rq ?_; clear hH; intro W hH)
  all_goals go_wp2_with (first | ((go_at_call 151; refine callR 0 hH rfl (fun hr => HG.out _ _ _ hr) ?_; (clear hH; (first | intro W g hH | intro W hH); (try simp only [Act.put, pA, pB, pC])))) | (refine st ?_; clear hH; first | intro W g hH | intro W hH))
  all_goals go_ret3
  all_goals exact ⟨rfl, hH.below⟩
theorem rd4_err (f : ∀ w, Gives Tryz.prog 147 #[.string s] w (.tuple #[.int .i64 0, .int .i64 0, .int .i64 e])) (d : (e != 0) = true) : Gives Tryz.prog 106 #[.string s] w (.tuple #[.agg pZ4.toArray, .int .i64 e]) := by
  refine Gives.of ?_
  have hH := Hp.refl w
  unfold pZ4 pS4 aZ
  go_enter Tryz.func106, Tryz.ntmps106
  go_wp2_with (refine st ?_; clear hH; first | intro W g hH | intro W hH)
  (refine iRet2 Tryz.results106 tab_ok rfl rfl hH ?_; refine ⟨_, _, rfl, rfl, rfl, ?_⟩)
  exact ⟨rfl, hH.below⟩
theorem rd4_long (hs : s.size ≤ 800) (h : 20 ≤ s.size) (hn : 20 ≤ N) (hn2 : N ≤ s.size) (hna : N ≤ A) (ha : A ≤ s.size)
    (f1 : ∀ w, Gives Tryz.prog 147 #[.string s] w (.tuple #[.int .i64 (N : Int), .int .i64 (A : Int), .int .i64 0])) (f2 : ∀ w, Gives Tryz.prog 148 #[.string (s.extract 20 N)] w (.tuple #[.bool is, .bool ok]))
    (x1 : ∀ W, (Instr.index 9 (.string s) (.int .i64 1)).run Tryz.prog W = .ok (.int .u8 (b1 : Int)) W) (x4 : ∀ W, (Instr.index 9 (.string s) (.int .i64 4)).run Tryz.prog W = .ok (.int .u8 (b4 : Int)) W) (x5 : ∀ W, (Instr.index 9 (.string s) (.int .i64 5)).run Tryz.prog W = .ok (.int .u8 (b5 : Int)) W) (x6 : ∀ W, (Instr.index 9 (.string s) (.int .i64 6)).run Tryz.prog W = .ok (.int .u8 (b6 : Int)) W) (x7 : ∀ W, (Instr.index 9 (.string s) (.int .i64 7)).run Tryz.prog W = .ok (.int .u8 (b7 : Int)) W) (x8 : ∀ W, (Instr.index 9 (.string s) (.int .i64 8)).run Tryz.prog W = .ok (.int .u8 (b8 : Int)) W) (x9 : ∀ W, (Instr.index 9 (.string s) (.int .i64 9)).run Tryz.prog W = .ok (.int .u8 (b9 : Int)) W)
    (g1 : b1 < 256) (g4 : b4 < 256) (g5 : b5 < 256) (g6 : b6 < 256) (g7 : b7 < 256) (g8 : b8 < 256) (g9 : b9 < 256) (hand : bits .and .u8 (b6 : Int) 63 = (q : Int)) (hor : bits .or .i64 ((b4 : Int) * 256) (b5 : Int) = (ID : Int)) (hID : ID < 65536) (d6 : ((q : Int) != 0) = c6) (d7 : ((b7 : Int) != 0) = c7) (d9 : decide (1400 < (A : Int) - (N : Int)) = false)
    (rA : ∀ w, Gives Tryz.prog 107 #[.string (s.extract 12 16)] w (.tuple #[.agg (fls [.many X 17]).toArray, .int .i64 0])) (rB : ∀ w, Gives Tryz.prog 107 #[.string (s.extract 16 20)] w (.tuple #[.agg (fls [.many Y 17]).toArray, .int .i64 0])) (oX : OkA X 17) (oY : OkA Y 17) :
    Gives Tryz.prog 106 #[.string s] w (.tuple #[.agg (if c6 || (c7 || !ok) then pZ4 else fls (pS4 b1 ID b8 b9 X Y is (s.extract N A))).toArray, .int .i64 (if c6 || c7 then 5 else if ok then 0 else 2)]) := by
  refine Gives.of ?_
  have hH := Hp.refl w
  unfold pZ4 pS4 aZ
  cases c6; (focus (cases c7; (focus (cases ok))))
  all_goals go_enter Tryz.func106, Tryz.ntmps106
  all_goals go_wp2_with (refine st ?_; clear hH; first | intro W g hH | intro W hH)
  all_goals (try (((with_reducible refine regKN [] hH (SubH.keep (SubH.keep SubH.nil)) (by kernel_rfl) ?_); (clear hH; intro W hH); refine kt [0, 1, 2, 3, 4, 5, 6, 7, 8, 9, 10, 11, 12, 13, 14, 15, 16, 19, 20, 21, 22, 23] ?_; refine kl [17, 18] ?_; refine kt [24] ?_; refine ko 25 ?_; go_wp2_with (refine st ?_; clear hH; first | intro W g hH | intro W hH); refine ke ?_; refine kt [26] ?_; refine hk_endN (by kernel_rfl) ?_); go_wp2_with (refine st ?_; clear hH; first | intro W g hH | intro W hH)))
  all_goals (refine iRet2 Tryz.results106 tab_ok rfl rfl hH ?_; refine ⟨_, _, rfl, rfl, rfl, ?_⟩)
  all_goals exact ⟨rfl, hH.below⟩
end
section
variable {s : ByteArray} {w : World}
def n4 (s : ByteArray) : Nat := by4 s 0 % 16 * 4
def a4 (s : ByteArray) : Nat := by4 s 2 * 256 + by4 s 3
def j2 (s : ByteArray) : Bool := decide (by4 s 0 / 16 ≠ 4)
def j3 (s : ByteArray) : Bool := decide (n4 s < 20)
def j4 (s : ByteArray) : Bool := decide (s.size < n4 s)
def j5 (s : ByteArray) : Bool := decide (foldN (wsum (s.extract 0 (n4 s)).data.toList) ≠ 65535)
def j6 (s : ByteArray) : Bool := decide (a4 s < n4 s)
def j7 (s : ByteArray) : Bool := decide (s.size < a4 s)
def j8 (s : ByteArray) : Bool := decide (by4 s 6 % 64 ≠ 0 ∨ by4 s 7 ≠ 0)
def opt4s (s : ByteArray) : Option Bool := opt4 (s.extract 20 (n4 s)).data.toList false
def err4 (s : ByteArray) : Int := if s.size < 20 then 3 else if j2 s then 5 else if j3 s then 2 else if j4 s then 3 else if j5 s then 4 else if j6 s then 2 else if j7 s then 3 else if j8 s then 5 else if (opt4s s).isSome then 0 else 2
noncomputable def p4X (s : ByteArray) : List Value := if err4 s = 0 then fls (pS4 (by4 s 1) ((by4 s 4 * 256 + by4 s 5 : Nat) : Int) (by4 s 8) (by4 s 9) (adL (ad4 s 12)) (adL (ad4 s 16)) ((opt4s s).getD false) (s.extract (n4 s) (a4 s))) else pZ4
theorem numAt_two {i : Nat} (h : i + 2 ≤ s.size) : numAt s i 2 = by4 s i * 256 + by4 s (i + 1) := by
  have hl := size_toList s
  unfold numAt by4
  rw [List.drop_eq_getElem_cons (by omega), List.take_succ_cons, List.drop_eq_getElem_cons (by omega), List.take_succ_cons, List.take_zero, List.getElem?_eq_getElem (by omega), List.getElem?_eq_getElem (by omega)]
  simp [numL]
theorem by4_ix {i : Nat} (h : i < s.size) (W : World) : (Instr.index 9 (.string s) (.int .i64 (i : Int))).run Tryz.prog W = .ok (.int .u8 (by4 s i : Int)) W := by
  rw [run_idx Tryz.underlying9 s i h _ rfl W, by4_get h]
theorem bt {p q : Prop} [Decidable p] [Decidable q] (h : p ↔ q) : decide p = decide q := by simp [h]
theorem bne_t {a b : Int} {q : Prop} [Decidable q] (h : a ≠ b ↔ q) : (a != b) = decide q := by rw [Bool.eq_iff_iff, bne_iff_ne, decide_eq_true_eq]; exact h
theorem ad4_read {i : Nat} (h : i + 4 ≤ s.size) : (s.extract i (i + 4)).size = 4 ∨ (s.extract i (i + 4)).size = 16 := .inl (by rw [extract_size h (by omega)]; omega)
theorem read4_any (hs : s.size ≤ 800) : Gives Tryz.prog 106 #[.string s] w (.tuple #[.agg (p4X s).toArray, .int .i64 (err4 s)]) := by
  by_cases h : s.size < 20
  · have e : err4 s = 3 := if_pos h
    unfold p4X
    rw [e, if_neg (by decide)]
    exact rd4_err (fun w => sz4_short h) (by decide)
  have z := fun w => sz4_long (w := w) (b0 := by4 s 0) (b2 := by4 s 2) (b3 := by4 s 3) (N := by4 s 0 % 16) (A := a4 s) (c2 := j2 s) (c3 := j3 s) (c4 := j4 s) (c5 := j5 s) (c6 := j6 s) (c7 := j7 s) (by omega) hs (by4_ix (i := 0) (by omega)) (by4_ix (i := 2) (by omega)) (by4_ix (i := 3) (by omega)) (by4_lt _ _) (by4_lt _ _) (by4_lt _ _) (u8_and15 _ (by4_lt _ _)) (by omega)
    (i64_or8 _ _ (by have := by4_lt s 2; omega) (by4_lt _ _)) (by have := by4_lt s 2; have := by4_lt s 3; unfold a4; omega)
    (fun w g c hr => by
      have hx := cut_size2 s 0 (n4 s)
      have hl := by4_lt s 0
      have hm := Good_row (m := 1) (c := c) (ss := [s.extract 0 (n4 s)]) rfl (small1 (by unfold n4 at hx ⊢; omega)) (by unfold n4; simpa [fls] using hr)
      rwa [show (decide (foldN (wsum (flat [s.extract 0 (n4 s)])) = 65535)) = !j5 s by simp [j5, flat]] at hm)
    (bne_t (by have := by4_lt s 0; omega)) (bt (by unfold n4; omega)) (bt (by unfold n4; omega)) (bt (by unfold n4; omega)) (bt (by omega))
  by_cases hz : (j2 s || (j3 s || (j4 s || (j5 s || (j6 s || j7 s))))) = true
  · simp only [hz, if_true] at z
    have e : err4 s = if j2 s then 5 else if j3 s then 2 else if j4 s then 3 else if j5 s then 4 else if j6 s then 2 else if j7 s then 3 else 0 := by
      unfold err4
      rw [if_neg h]
      generalize j2 s = c2 at *; generalize j3 s = c3 at *; generalize j4 s = c4 at *; generalize j5 s = c5 at *; generalize j6 s = c6 at *; generalize j7 s = c7 at *
      cases c2 <;> cases c3 <;> cases c4 <;> cases c5 <;> cases c6 <;> cases c7 <;> simp at hz ⊢
    have hn : err4 s ≠ 0 := by
      rw [e]
      generalize j2 s = c2 at *; generalize j3 s = c3 at *; generalize j4 s = c4 at *; generalize j5 s = c5 at *; generalize j6 s = c6 at *; generalize j7 s = c7 at *
      cases c2 <;> cases c3 <;> cases c4 <;> cases c5 <;> cases c6 <;> cases c7 <;> simp at hz ⊢
    rw [← e] at z
    unfold p4X
    rw [if_neg hn]
    exact rd4_err z (by simpa using hn)
  simp only [Bool.or_eq_true, not_or, Bool.not_eq_true] at hz
  obtain ⟨e2, e3, e4, e5, e6, e7⟩ := hz
  simp only [e2, e3, e4, e5, e6, e7, Bool.or_false, Bool.false_eq_true, if_false] at z
  simp only [j3, j4, j6, j7, decide_eq_false_iff_not] at e3 e4 e6 e7
  have hN : ((by4 s 0 % 16 : Nat) : Int) * 4 = (n4 s : Int) := by unfold n4; omega
  rw [hN] at z
  have he : err4 s = if j8 s then 5 else if (opt4s s).isSome then 0 else 2 := by
    unfold err4
    rw [if_neg h]
    simp only [e2, e5, show j3 s = false from decide_eq_false e3, show j4 s = false from decide_eq_false e4, show j6 s = false from decide_eq_false e6, show j7 s = false from decide_eq_false e7, Bool.false_eq_true, if_false]
  have := rd4_long (w := w) (b7 := by4 s 7) (ID := by4 s 4 * 256 + by4 s 5) (is := (opt4s s).getD false) (ok := (opt4s s).isSome) hs (by omega) (by omega) (by omega) (by omega) (by omega) z (fun w => options4_any (by have := cut_size2 s 20 (n4 s); omega))
    (by4_ix (i := 1) (by omega)) (by4_ix (i := 4) (by omega)) (by4_ix (i := 5) (by omega)) (by4_ix (i := 6) (by omega)) (by4_ix (i := 7) (by omega)) (by4_ix (i := 8) (by omega)) (by4_ix (i := 9) (by omega)) (by4_lt _ _) (by4_lt _ _) (by4_lt _ _) (by4_lt _ _) (by4_lt _ _) (by4_lt _ _) (by4_lt _ _) (u8_and63 _ (by4_lt _ _)) (i64_or8 _ _ (by have := by4_lt s 4; omega) (by4_lt _ _)) (by have := by4_lt s 4; have := by4_lt s 5; omega) rfl rfl (decide_eq_false (by omega))
    (fun w => aRead_ad (ad4_read (i := 12) (by omega))) (fun w => aRead_ad (ad4_read (i := 16) (by omega))) (adL_ok _) (adL_ok _)
  have h8 : j8 s = ((((by4 s 6 % 64 : Nat) : Int) != 0) || ((by4 s 7 : Int) != 0)) := by
    unfold j8
    rw [bne_t (q := by4 s 6 % 64 ≠ 0) (by omega), bne_t (q := by4 s 7 ≠ 0) (by omega)]; simp
  unfold p4X
  rw [he, h8]
  generalize (((by4 s 6 % 64 : Nat) : Int) != 0) = c6 at *
  generalize ((by4 s 7 : Int) != 0) = c7 at *
  cases ho : (opt4s s).isSome <;> simp only [ho] at this ⊢ <;> cases c6 <;> cases c7 <;> exact this
theorem Read4_any (hs : s.size ≤ 800) : Gives Tryz.prog 53 #[.string s] w (.tuple #[.agg (p4X s).toArray, .int .i64 (err4 s)]) := by
  have f : ∀ w, Gives Tryz.prog 106 #[.string s] w (.tuple #[.agg (p4X s).toArray, .int .i64 (err4 s)]) := fun w => read4_any hs
  obtain ⟨S, hS, hl, ho⟩ : ∃ S, p4X s = fls S ∧ lenS S = 40 ∧ okS S := by
    unfold p4X pZ4
    split
    · exact ⟨_, rfl, rfl, rfl, rfl, rfl, rfl, adL_ok _, adL_ok _, rfl, rfl, trivial⟩
    · exact ⟨_, rfl, rfl, rfl, rfl, rfl, rfl, aZ_ok, aZ_ok, rfl, rfl, trivial⟩
  have oX : OkA (p4X s) 40 := by rw [hS]; exact okA_fls ho hl
  clear hS hl ho
  rw [← fls1 (A := p4X s) (n := 40)] at f ⊢
  generalize p4X s = X at *
  generalize err4 s = e at *
  refine Gives.of ?_
  have hH := Hp.refl w
  go_enter Tryz.func53, Tryz.ntmps53
  go_wp2_with (refine st ?_; clear hH; first | intro W g hH | intro W hH)
  (refine iRet2 Tryz.results53 tab_ok rfl rfl hH ?_; refine ⟨_, _, rfl, rfl, rfl, ?_⟩)
  exact ⟨rfl, hH.below⟩
end
end Go.Proofs.YtdnehjhijmeihaaGreat
