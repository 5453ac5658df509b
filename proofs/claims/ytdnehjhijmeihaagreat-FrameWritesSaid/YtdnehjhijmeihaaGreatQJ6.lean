/-
  Joined texts: J6.
-/
import Derived.Test.YtdnehjhijmeihaaGreatQJo
import Derived.Test.YtdnehjhijmeihaaGreatQJ4
namespace Go.Proofs.YtdnehjhijmeihaaGreat
open Go.ChangeShapes Go.WideShapes Go.ChangeAt Go.RowKit
set_option linter.unusedVariables false
set_option linter.unusedSimpArgs false
set_option maxRecDepth 20000
set_option maxHeartbeats 4000000
attribute [local irreducible] wpList ByteArray.extract Int.decLt
theorem results_tmp4 {fn : Func} {t u v x : Tmp} (h : fn.results = #[.tmp t, .tmp u, .tmp v, .tmp x]) (tmps : Array Value) (P : Program) (w : World) :
    (results fn tmps).run P w = .ok (.tuple #[tmps.getD t undef, tmps.getD u undef, tmps.getD v undef, tmps.getD x undef]) w := by
  simp [results, h]
def pS6 (cl fl nx hop : Int) (F T : List Value) (al : Bool) (b : ByteArray) : List Seg := [.one (.int .i64 cl), .one (.int .i64 fl), .one (.int .i64 nx), .one (.int .i64 hop), .many F 17, .many T 17, .one (.bool al), .one (.string b)]
noncomputable def pZ6 : List Value := fls (pS6 0 0 0 0 aZ aZ false ⟨#[]⟩)
section
variable {s b body x1 x2 x3 x4 x5 x6 x7 : ByteArray} {w : World} {b0 b1 b6 b7 n Wd V L Nx Hp1 C F0 k1 k2 k3 k4 k5 k6 k7 : Nat} {B1 B2 B3 B4 B5 B6 B7 c1 c2 c3 c4 c5 is : Bool} {e nx : Int} {X Y : List Value} {rest : ByteArray}
theorem st6_short (h : b.size < 8) : Gives Tryz.prog 108 #[.string b] w (.tuple #[.int .i64 0, .bool false, .string ⟨#[]⟩, .int .i64 2]) := by
  refine Gives.of ?_
  have hH := Hp.refl w
  go_enter Tryz.func108, Tryz.ntmps108
  go_wp2_with (refine st ?_; clear hH; first | intro W g hH | intro W hH)
  all_goals first | (exfalso; omega) | skip
  (try simp only [Exit.inBlock, Exit.then])
  refine bodyPost_ret (results_tmp4 rfl _ _ _) rfl ?_
  exact ⟨rfl, hH.below⟩
theorem st6_long (h : 8 ≤ b.size) (hs : b.size ≤ 800) (x0 : ∀ W, (Instr.index 9 (.string b) (.int .i64 0)).run Tryz.prog W = .ok (.int .u8 (b0 : Int)) W) (x1 : ∀ W, (Instr.index 9 (.string b) (.int .i64 1)).run Tryz.prog W = .ok (.int .u8 (b1 : Int)) W) (g0 : b0 < 256) (g1 : b1 < 256) (hn : ((b1 : Int) + 1) * 8 = (n : Int)) (h2 : 2 ≤ n) (d1 : decide ((b.size : Int) < (n : Int)) = c1) (d3 : (e == 0) = c3) (d4 : ((b0 : Int) == 0) = c4)
    (f : ∀ w, Gives Tryz.prog 149 #[.string (b.extract 2 n)] w (.tuple #[.bool is, .int .i64 e])) :
    Gives Tryz.prog 108 #[.string b] w (.tuple #[.int .i64 (if c1 then 0 else (b0 : Int)), .bool (if c1 then false else is), .string (if c1 then ⟨#[]⟩ else b.extract n b.size), .int .i64 (if c1 then 2 else if c3 && c4 then 2 else e)]) := by
  refine Gives.of ?_
  have hH := Hp.refl w
  have d8 : decide ((b.size : Int) < 8) = false := decide_eq_false (by omega)
  cases c1; (focus (cases c3; rotate_left; (focus (cases c4))))
  all_goals ((first | have qd1 := of_decide_eq_false d1 | have qd1 := of_decide_eq_true d1 | skip))
  all_goals go_enter Tryz.func108, Tryz.ntmps108
  all_goals go_wp2_with (refine st ?_; clear hH; first | intro W g hH | intro W hH)
  all_goals (try ((refine rq ?_; clear hH; intro W hH); go_wp2_with (refine st ?_; clear hH; first | intro W g hH | intro W hH)))
  all_goals (try simp only [Exit.inBlock, Exit.then])
  all_goals refine bodyPost_ret (results_tmp4 rfl _ _ _) rfl ?_
  all_goals exact ⟨rfl, hH.below⟩
theorem rd6 (hs : s.size ≤ 800) (n1 : RdT s 0 false 4 k1 B1 x1) (v1 : NumX x1 Wd) (hW : Wd < 4294967296) (n2 : RdT s k1 B1 2 k2 B2 x2) (v2 : NumX x2 L) (hL : L < 65536) (n3 : RdT s k2 B2 1 k3 B3 x3) (v3 : NumX x3 Nx) (hNx : Nx < 256) (n4 : RdT s k3 B3 1 k4 B4 x4) (v4 : NumX x4 Hp1) (hHp : Hp1 < 256) (n5 : RdT s k4 B4 16 k5 B5 x5) (n6 : RdT s k5 B5 16 k6 B6 x6) (n7 : RdT s k6 B6 L k7 B7 x7)
    (f1 : ∀ w, Gives Tryz.prog 50 #[.int .u64 Wd, .int .i64 20, .int .i64 8] w (.int .u64 C)) (hC : C < 256) (f2 : ∀ w, Gives Tryz.prog 50 #[.int .u64 Wd, .int .i64 0, .int .i64 20] w (.int .u64 F0)) (hF0 : F0 < 1048576) (f3 : ∀ w, Gives Tryz.prog 50 #[.int .u64 Wd, .int .i64 28, .int .i64 4] w (.int .u64 V)) (hV : V < 16) (d1 : ((V : Int) != 6) = c1)
    (rA : B6 = false → ∀ w, Gives Tryz.prog 107 #[.string x5] w (.tuple #[.agg (fls [.many X 17]).toArray, .int .i64 0])) (rB : B6 = false → ∀ w, Gives Tryz.prog 107 #[.string x6] w (.tuple #[.agg (fls [.many Y 17]).toArray, .int .i64 0])) (oX : OkA X 17) (oY : OkA Y 17)
    (d2 : ((Nx : Int) == 0) = c2) (f4 : ∀ w, Gives Tryz.prog 108 #[.string x7] w (.tuple #[.int .i64 nx, .bool is, .string rest, .int .i64 e])) (d3 : (e != 0) = c3) (hr : rest.size ≤ 800) (h7 : x7.size ≤ 800) :
    Gives Tryz.prog 54 #[.string s] w (.tuple #[.agg (if B6 || (c1 || (B7 || (c2 && c3))) then pZ6 else if c2 then fls (pS6 C F0 nx Hp1 X Y is rest) else fls (pS6 C F0 Nx Hp1 X Y false x7)).toArray, .int .i64 (if B6 then 3 else if c1 then 5 else if B7 then 3 else if c2 && c3 then e else 0)]) := by
  refine Gives.of ?_
  have hH := Hp.refl w
  unfold pZ6 pS6 aZ
  cases B6; (focus (cases c1; (focus (cases B7; (focus (cases c2; rotate_left; (focus (cases c3))))))))
  all_goals (try have rA := rA rfl)
  all_goals (try have rB := rB rfl)
  all_goals go_enter Tryz.func54, Tryz.ntmps54
  all_goals go_wp2_with (first | ((refine rds ?_; (clear hH; (first | intro W g hH | intro W hH); (try simp only [Act.put, pA, pB, pC])))) | (refine st ?_; clear hH; first | intro W g hH | intro W hH))
  all_goals (refine iRet2 Tryz.results54 tab_ok rfl rfl hH ?_; refine ⟨_, _, rfl, rfl, rfl, ?_⟩)
  all_goals exact ⟨rfl, hH.below⟩
end
section
variable {s b : ByteArray} {w : World}
def m6 (b : ByteArray) : Nat := (by4 b 1 + 1) * 8
def o6 (b : ByteArray) : Bool × Int := opt6s (b.extract 2 (m6 b))
structure S6 where
  nx : Int
  is : Bool
  r : ByteArray
  e : Int
def strip6 (b : ByteArray) : S6 := if b.size < 8 ∨ b.size < m6 b then ⟨0, false, ⟨#[]⟩, 2⟩ else ⟨by4 b 0, (o6 b).1, b.extract (m6 b) b.size, if (o6 b).2 = 0 ∧ by4 b 0 = 0 then 2 else (o6 b).2⟩
theorem strip_r : (strip6 b).r.size ≤ b.size := by
  unfold strip6
  split
  · exact Nat.zero_le _
  · have := cut_size2 b (m6 b) b.size; show (b.extract _ _).size ≤ _; omega
theorem strip_any (hs : b.size ≤ 800) : Gives Tryz.prog 108 #[.string b] w (.tuple #[.int .i64 (strip6 b).nx, .bool (strip6 b).is, .string (strip6 b).r, .int .i64 (strip6 b).e]) := by
  by_cases h8 : b.size < 8
  · have e : strip6 b = ⟨0, false, ⟨#[]⟩, 2⟩ := if_pos (.inl h8)
    rw [e]; exact st6_short h8
  have u0 := by4_lt b 0
  have u1 := by4_lt b 1
  have := st6_long (w := w) (b := b) (b0 := by4 b 0) (b1 := by4 b 1) (n := m6 b) (is := (o6 b).1) (e := (o6 b).2) (c4 := decide (by4 b 0 = 0)) (by omega) hs (by4_ix (i := 0) (by omega)) (by4_ix (i := 1) (by omega)) u0 u1 (by unfold m6; omega) (by unfold m6; omega) rfl rfl (by rw [Bool.eq_iff_iff]; simp) (fun w => options6_any (by have := cut_size2 b 2 (m6 b); unfold m6 at *; omega))
  by_cases hm : b.size < m6 b
  · have e : strip6 b = ⟨0, false, ⟨#[]⟩, 2⟩ := if_pos (.inr hm)
    rw [e]; simpa [hm] using this
  · have e : strip6 b = ⟨by4 b 0, (o6 b).1, b.extract (m6 b) b.size, if (o6 b).2 = 0 ∧ by4 b 0 = 0 then 2 else (o6 b).2⟩ := if_neg (by omega)
    rw [e]; simpa [hm] using this
def w6 (s : ByteArray) : Nat := numAt s 0 4
def l6 (s : ByteArray) : Nat := numAt s 4 2
def b6 (s : ByteArray) : ByteArray := s.extract 40 (40 + l6 s)
def err6 (s : ByteArray) : Int := if s.size < 40 then 3 else if w6 s / 268435456 ≠ 6 then 5 else if s.size < 40 + l6 s then 3 else if by4 s 6 = 0 then (strip6 (b6 s)).e else 0
noncomputable def p6X (s : ByteArray) (cl fl : Int) : List Value := if err6 s = 0 then (if by4 s 6 = 0 then fls (pS6 cl fl (strip6 (b6 s)).nx (by4 s 7) (adL (adR (s.extract 8 24))) (adL (adR (s.extract 24 40))) (strip6 (b6 s)).is (strip6 (b6 s)).r) else fls (pS6 cl fl (by4 s 6) (by4 s 7) (adL (adR (s.extract 8 24))) (adL (adR (s.extract 24 40))) false (b6 s))) else pZ6
theorem numAt_one {i : Nat} (h : i < s.size) : numAt s i 1 = by4 s i := by rw [num1 h, by4_get h]
theorem six_read {i : Nat} (h : i + 16 ≤ s.size) : (s.extract i (i + 16)).size = 4 ∨ (s.extract i (i + 16)).size = 16 := .inr (by rw [extract_size h (by omega)]; omega)
theorem Read6_any (hs : s.size ≤ 800) : ∃ cl fl, ∀ w, Gives Tryz.prog 54 #[.string s] w (.tuple #[.agg (p6X s cl fl).toArray, .int .i64 (err6 s)]) := by
  obtain ⟨k1, B1, x1, n1⟩ := RdT.of (s := s) (k := 0) false 4 (by omega) (by omega)
  obtain ⟨k2, B2, x2, n2⟩ := RdT.of B1 2 n1.le (by omega)
  obtain ⟨k3, B3, x3, n3⟩ := RdT.of B2 1 n2.le (by omega)
  obtain ⟨k4, B4, x4, n4⟩ := RdT.of B3 1 n3.le (by omega)
  obtain ⟨k5, B5, x5, n5⟩ := RdT.of B4 16 n4.le (by omega)
  obtain ⟨k6, B6, x6, n6⟩ := RdT.of B5 16 n5.le (by omega)
  have lt : ∀ {n : Nat} {x : ByteArray}, x.size ≤ n → numL x.data.toList < 256 ^ n := fun {n x} h => by
    have h1 := numL_lt x.data.toList
    rw [size_toList] at h1
    exact Nat.lt_of_lt_of_le h1 (Nat.pow_le_pow_right (n := 256) (by omega) h)
  obtain ⟨k7, B7, x7, n7⟩ := RdT.of B6 (numL x2.data.toList) n6.le (by omega)
  have h7 : x7.size ≤ 800 := by
    obtain ⟨_, _, _, _, rfl⟩ := n7
    unfold rdS
    split
    · have := cut_size2 s k6 (k6 + numL x2.data.toList); rename_i hf; simp [rdFits] at hf; omega
    · exact Nat.zero_le _
  have key := fun X Y oX oY rA rB (w : World) => rd6 (w := w) (X := X) (Y := Y) hs n1 rfl (lt n1.sz) n2 rfl (lt n2.sz) n3 rfl (lt n3.sz) n4 rfl (lt n4.sz) n5 n6 n7 (bits_is (a := 20) (b := 8) (by have := lt n1.sz; omega) (by omega) (by omega) rfl) (Nat.mod_lt _ (by omega)) (bits_is (a := 0) (b := 20) (by have := lt n1.sz; omega) (by omega) (by omega) rfl) (Nat.mod_lt _ (by omega)) (bits_is (a := 28) (b := 4) (by have := lt n1.sz; omega) (by omega) (by omega) rfl) (Nat.mod_lt _ (by omega)) rfl rA rB oX oY rfl (fun w => strip_any h7) rfl (by have := strip_r (b := x7); omega) h7
  by_cases h : s.size < 40
  · have hb : B6 = true := by
      refine (n6.no ?_).2.1
      by_cases h24 : s.size < 24
      · refine .inl (n5.no ?_).2.1
        by_cases h8 : s.size < 8
        · refine .inl (n4.no ?_).2.1
          by_cases h7 : s.size < 7
          · refine .inl (n3.no ?_).2.1
            by_cases h6 : s.size < 6
            · refine .inl (n2.no ?_).2.1
              by_cases h4 : s.size < 4
              · exact .inl (n1.no (.inr (by omega))).2.1
              · obtain ⟨rfl, _, _⟩ := n1.ok (by omega); exact .inr (by omega)
            · obtain ⟨rfl, rfl, _⟩ := n1.ok (by omega)
              obtain ⟨rfl, _, _⟩ := n2.ok (by omega); exact .inr (by omega)
          · obtain ⟨rfl, rfl, _⟩ := n1.ok (by omega)
            obtain ⟨rfl, rfl, _⟩ := n2.ok (by omega)
            obtain ⟨rfl, _, _⟩ := n3.ok (by omega); exact .inr (by omega)
        · obtain ⟨rfl, rfl, _⟩ := n1.ok (by omega)
          obtain ⟨rfl, rfl, _⟩ := n2.ok (by omega)
          obtain ⟨rfl, rfl, _⟩ := n3.ok (by omega)
          obtain ⟨rfl, _, _⟩ := n4.ok (by omega); exact .inr (by omega)
      · obtain ⟨rfl, rfl, _⟩ := n1.ok (by omega)
        obtain ⟨rfl, rfl, _⟩ := n2.ok (by omega)
        obtain ⟨rfl, rfl, _⟩ := n3.ok (by omega)
        obtain ⟨rfl, rfl, _⟩ := n4.ok (by omega)
        obtain ⟨rfl, _, _⟩ := n5.ok (by omega); exact .inr (by omega)
    subst hb
    refine ⟨0, 0, fun w => ?_⟩
    have := key aZ aZ aZ_ok aZ_ok (fun e => by cases e) (fun e => by cases e) w
    have e : err6 s = 3 := if_pos h
    unfold p6X
    rw [e, if_neg (by decide)]
    simpa using this
  obtain ⟨e1, e2, e3⟩ := n1.ok (by omega)
  simp only [Nat.zero_add] at e1 e3
  subst e1 e2 e3
  obtain ⟨e1, e2, e3⟩ := n2.ok (by omega)
  simp only [Nat.reduceAdd] at e1 e3
  subst e1 e2 e3
  obtain ⟨e1, e2, e3⟩ := n3.ok (by omega)
  simp only [Nat.reduceAdd] at e1 e3
  subst e1 e2 e3
  obtain ⟨e1, e2, e3⟩ := n4.ok (by omega)
  simp only [Nat.reduceAdd] at e1 e3
  subst e1 e2 e3
  obtain ⟨e1, e2, e3⟩ := n5.ok (by omega)
  simp only [Nat.reduceAdd] at e1 e3
  subst e1 e2 e3
  obtain ⟨e1, e2, e3⟩ := n6.ok (by omega)
  simp only [Nat.reduceAdd] at e1 e3
  subst e1 e2 e3
  have E1 : numL (s.extract 0 4).data.toList = w6 s := numX_at s 0 4
  have E2 : numL (s.extract 4 6).data.toList = l6 s := numX_at s 4 2
  have E3 : numL (s.extract 6 7).data.toList = by4 s 6 := (numX_at s 6 1).trans (numAt_one (by omega))
  have E4 : numL (s.extract 7 8).data.toList = by4 s 7 := (numX_at s 7 1).trans (numAt_one (by omega))
  rw [E1, E3, E4] at key
  rw [E2] at n7
  have key := key _ _ (adL_ok _) (adL_ok _) (fun _ w => aRead_ad (six_read (i := 8) (by omega))) (fun _ w => aRead_ad (six_read (i := 24) (by omega)))
  have hw : w6 s < 4294967296 := numAt_lt s 0 4
  refine ⟨((w6 s / 2 ^ 20 % 2 ^ 8 : Nat) : Int), ((w6 s / 2 ^ 0 % 2 ^ 20 : Nat) : Int), fun w => ?_⟩
  have key := key w
  have e6 : err6 s = if w6 s / 268435456 ≠ 6 then 5 else if s.size < 40 + l6 s then 3 else if by4 s 6 = 0 then (strip6 (b6 s)).e else 0 := if_neg h
  have d6 : (((w6 s / 2 ^ 28 % 2 ^ 4 : Nat) : Int) != 6) = decide (w6 s / 268435456 ≠ 6) := bne_t (by omega)
  have d0 : ((by4 s 6 : Int) == 0) = decide (by4 s 6 = 0) := by rw [Bool.eq_iff_iff]; simp
  rw [d6, d0] at key
  unfold p6X
  rw [e6]
  by_cases hv : w6 s / 268435456 ≠ 6
  · simp only [hv, if_true, ne_eq, not_false_eq_true, decide_true] at key ⊢
    simpa using key
  rw [if_neg hv]
  rw [decide_eq_false hv] at key
  by_cases hl : s.size < 40 + l6 s
  · obtain ⟨_, rfl, _⟩ := n7.no (.inr hl)
    rw [if_pos hl]
    simpa using key
  obtain ⟨_, rfl, e3⟩ := n7.ok (by omega)
  rw [if_neg hl]
  have e3 : x7 = b6 s := e3
  subst e3
  by_cases h0 : by4 s 6 = 0
  · simp only [if_pos h0, decide_eq_true h0] at key ⊢
    by_cases he : (strip6 (b6 s)).e = 0
    · rw [he] at key ⊢; simpa using key
    · rw [if_neg he]
      have : ((strip6 (b6 s)).e != 0) = true := by simpa using he
      rw [this] at key
      simpa using key
  · simp only [if_neg h0, decide_eq_false h0] at key ⊢
    simpa using key
end
end Go.Proofs.YtdnehjhijmeihaaGreat
