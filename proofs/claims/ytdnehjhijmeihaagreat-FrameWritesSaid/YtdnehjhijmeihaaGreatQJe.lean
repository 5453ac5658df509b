/-
  Joined texts: Je.
-/
import Derived.Test.YtdnehjhijmeihaaGreatQJo
namespace Go.Proofs.YtdnehjhijmeihaaGreat
open Go.ChangeShapes Go.WideShapes Go.ChangeAt Go.RowKit
set_option linter.unusedVariables false
set_option linter.unusedSimpArgs false
set_option maxRecDepth 20000
set_option maxHeartbeats 4000000
attribute [local irreducible] wpList ByteArray.extract Int.decLt
def pad6 (x : ByteArray) : List UInt8 := x.data.toList ++ List.replicate (6 - x.size) 0
theorem pad6_len {x : ByteArray} (h : x.size ≤ 6) : (pad6 x).length = 6 := by have := size_toList x; simp [pad6]; omega
def eS (M N : List Value) (tg : Bool) (pr vl ty : Int) (b : ByteArray) : List Seg := [.many M 6, .many N 6, .one (.bool tg), .one (.int .i64 vl), .one (.int .i64 pr), .one (.int .i64 ty), .one (.string b)]
def z6L : List Value := List.replicate 6 (.int .u8 0)
def eZ : List Value := fls (eS z6L z6L false 0 0 0 ⟨#[]⟩)
section
variable {B : Nat} {w0 W w : World} {H H' : HB} {gr g : Nat} {s x : ByteArray} {k k' : Nat} {b b' : Bool} {Q : Ending → World → Prop}
theorem mac_any (hr : RdT s k b 6 k' b' x) (hH : Hp B w0 W ((gr, 129, true, rSg s k b) :: H))
    (hQ : ∀ W', Hp B w0 W' ((gr, 129, true, rSg s k' b') :: H) → Q (.returned (.agg (fls [.many ((pad6 x).map byteV) 6]).toArray)) W') : Calls Tryz.prog 48 #[.pointer (some ⟨gr, 0, none⟩)] W Q := by
  have HQ := Lib.hid hQ
  clear hQ
  have hx := hr.sz
  have oM := okA_bytes (pad6_len hx)
  have hz : [Value.int .u8 0, .int .u8 0, .int .u8 0, .int .u8 0, .int .u8 0, .int .u8 0] = [] ++ (List.replicate x.size (.int .u8 0) ++ List.replicate (6 - x.size) (.int .u8 0)) := by
    rw [List.replicate_append_replicate, show x.size + (6 - x.size) = 6 by omega]; rfl
  have hd := Lib.hid (show (pad6 x).map byteV = x.data.toList.map byteV ++ List.replicate (6 - x.size) (.int .u8 0) by unfold pad6; rw [List.map_append, List.map_replicate]; rfl)
  generalize (pad6 x).map byteV = Z at *
  have hq : fls [.many Z 6] = [] ++ (x.data.toList.map byteV ++ List.replicate (6 - x.size) (.int .u8 0)) := by simp [fls, hd.out]
  have ho : okS [.many Z 6] := ⟨oM, trivial⟩
  go_enter Tryz.func48, Tryz.ntmps48
  go_wp2_with (refine st ?_; clear hH; first | intro W g hH | intro W hH)
  ((with_reducible refine regKN [3] hH (SubH.drop (SubH.keep (SubH.drop SubH.refl))) (by kernel_rfl) ?_); (clear hH; intro W hH); refine kt [0, 1] ?_; refine ko 2 ?_; go_wp2_with (first | ((refine rds ?_; (clear hH; (first | intro W g hH | intro W hH); (try simp only [Act.put, pA, pB, pC])))) | ((refine hCpS 0 rfl rfl Tryz.underlying114 size_u8A rfl rfl hx hH rfl ?_; refine ⟨_, _, _, _, hz, rfl, List.length_replicate, ho, hq, ?_⟩; intro W H' hu h; (obtain rfl := Option.some.inj hu); clear hu hH; have hH := h; clear h; ((try simp only [Act.put, pA, pB, pC])))) | (refine st ?_; clear hH; first | intro W g hH | intro W hH)); refine ke ?_; refine ko 3 ?_; go_wp2_with (first | ((refine rds ?_; (clear hH; (first | intro W g hH | intro W hH); (try simp only [Act.put, pA, pB, pC])))) | ((refine hCpS 0 rfl rfl Tryz.underlying114 size_u8A rfl rfl hx hH rfl ?_; refine ⟨_, _, _, _, hz, rfl, List.length_replicate, ho, hq, ?_⟩; intro W H' hu h; (obtain rfl := Option.some.inj hu); clear hu hH; have hH := h; clear h; ((try simp only [Act.put, pA, pB, pC])))) | (refine st ?_; clear hH; first | intro W g hH | intro W hH)); refine kz ?_; refine hk_endN (by kernel_rfl) ?_)
  go_wp2_with (refine st ?_; clear hH; first | intro W g hH | intro W hH)
  (refine iRet Tryz.results48 tab_ok rfl rfl hH ?_; refine ⟨_, _, rfl, rfl, rfl, ?_⟩)
  exact HQ.out _ (hH.sub (SubH.drop (SubH.drop SubH.refl)))
theorem hMacG (hH : Hp B w0 W H) [hi : HasB H gr 129 true (rSg s k b)]
    (h : ∃ k' b' x H', RdT s k b 6 k' b' x ∧ updH H hi.i (rSg s k' b') = some H' ∧ ∀ W', Hp B w0 W' H' → Q (.returned (.agg (fls [.many ((pad6 x).map byteV) 6]).toArray)) W') : Calls Tryz.prog 48 #[.pointer (some ⟨gr, 0, none⟩)] W Q := by
  obtain ⟨k', b', x, H', hr, hu, h⟩ := h
  exact callM1 hi.i hH hi.h hu (fun H0 h0 k0 => mac_any hr h0 k0) h
section
variable {k1 k2 k3 k4 k5 : Nat} {b1 b2 b3 b4 b5 c1 c2 c3 c4 : Bool} {x1 x2 x3 x4 x5 : ByteArray} {T T2 Wd P V D : Nat}
theorem eReadU (hs : s.size ≤ 800) (m1 : RdT s 0 false 6 k1 b1 x1) (m2 : RdT s k1 b1 6 k2 b2 x2) (n1 : RdT s k2 b2 2 k3 b3 x3) (v1 : NumX x3 T) (hT : T < 65536) (h0 : T ≠ 33024) (d3 : decide ((T : Int) < 1536) = c3) :
    Gives Tryz.prog 16 #[.string s] w (.tuple #[.agg (if b3 || c3 then eZ else fls (eS ((pad6 x1).map byteV) ((pad6 x2).map byteV) false 0 0 T (s.extract k3 s.size))).toArray, .int .i64 (if b3 then 3 else if c3 then 5 else 0)]) := by
  refine Gives.of ?_
  have hH := Hp.refl w
  have o1 := okA_bytes (pad6_len m1.sz)
  have o2 := okA_bytes (pad6_len m2.sz)
  have hk := n1.le
  have hb : (s.extract k3 s.size).size ≤ 800 := by have := cut_size2 s k3 s.size; omega
  have d0 : ((T : Int) == 33024) = false := by simp; omega
  have f1 : ∀ w, Gives Tryz.prog 50 #[.int .u64 0, .int .i64 12, .int .i64 1] w (.int .u64 0) := bits_is (n := 0) (a := 12) (b := 1) (v := 0) (by omega) (by omega) (by omega) rfl
  unfold eZ eS at *
  cases b3; (focus (cases c3))
  all_goals go_enter Tryz.func16, Tryz.ntmps16
  all_goals go_wp2_with (first | ((go_at_call 48; refine hMacG hH ?_; refine ⟨?_, ?_, ?_, ?_, ?_, ?_, ?_⟩; rotate_left 4; (focus assumption); (focus rfl); (clear hH; (first | intro W g hH | intro W hH); (try simp only [Act.put, pA, pB, pC])))) | ((refine rds ?_; (clear hH; (first | intro W g hH | intro W hH); (try simp only [Act.put, pA, pB, pC])))) | (refine st ?_; clear hH; first | intro W g hH | intro W hH))
  all_goals (refine iRet2 Tryz.results16 tab_ok rfl rfl hH ?_; refine ⟨_, _, rfl, rfl, rfl, ?_⟩)
  all_goals exact ⟨rfl, hH.below⟩
theorem eReadT (hs : s.size ≤ 800) (m1 : RdT s 0 false 6 k1 b1 x1) (m2 : RdT s k1 b1 6 k2 b2 x2) (n1 : RdT s k2 b2 2 k3 b3 x3) (v1 : NumX x3 33024) (n2 : RdT s k3 b3 2 k4 b4 x4) (v2 : NumX x4 Wd) (n3 : RdT s k4 b4 2 k5 b5 x5) (v3 : NumX x5 T2) (hW : Wd < 65536) (hT2 : T2 < 65536) (hP : P < 8) (hV : V < 4096) (hD : D < 2)
    (f1 : ∀ w, Gives Tryz.prog 50 #[.int .u64 Wd, .int .i64 13, .int .i64 3] w (.int .u64 P)) (f2 : ∀ w, Gives Tryz.prog 50 #[.int .u64 Wd, .int .i64 0, .int .i64 12] w (.int .u64 V)) (f3 : ∀ w, Gives Tryz.prog 50 #[.int .u64 Wd, .int .i64 12, .int .i64 1] w (.int .u64 D))
    (d1 : ((D : Int) == 1) = c1) (d2 : decide (4094 < (V : Int)) = c2) (d3 : decide ((T2 : Int) < 1536) = c3) (d4 : ((T2 : Int) == 33024) = c4) :
    Gives Tryz.prog 16 #[.string s] w (.tuple #[.agg (if b5 || (c1 || (c2 || (c3 || c4))) then eZ else fls (eS ((pad6 x1).map byteV) ((pad6 x2).map byteV) true P V T2 (s.extract k5 s.size))).toArray, .int .i64 (if b5 then 3 else if c1 || (c2 || (c3 || c4)) then 5 else 0)]) := by
  refine Gives.of ?_
  have hH := Hp.refl w
  have o1 := okA_bytes (pad6_len m1.sz)
  have o2 := okA_bytes (pad6_len m2.sz)
  have hk := n3.le
  have hb : (s.extract k5 s.size).size ≤ 800 := by have := cut_size2 s k5 s.size; omega
  unfold eZ eS at *
  cases b5; (focus (cases c1; (focus (cases c2; (focus (cases c3; (focus (cases c4))))))))
  all_goals go_enter Tryz.func16, Tryz.ntmps16
  all_goals go_wp2_with (first | ((go_at_call 48; refine hMacG hH ?_; refine ⟨?_, ?_, ?_, ?_, ?_, ?_, ?_⟩; rotate_left 4; (focus assumption); (focus rfl); (clear hH; (first | intro W g hH | intro W hH); (try simp only [Act.put, pA, pB, pC])))) | ((refine rds ?_; (clear hH; (first | intro W g hH | intro W hH); (try simp only [Act.put, pA, pB, pC])))) | (refine st ?_; clear hH; first | intro W g hH | intro W hH))
  all_goals (refine iRet2 Tryz.results16 tab_ok rfl rfl hH ?_; refine ⟨_, _, rfl, rfl, rfl, ?_⟩)
  all_goals exact ⟨rfl, hH.below⟩
end
section
variable {T Wd T2 : Nat} {c1 c2 c3 c4 : Bool}
end
def tgE (s : ByteArray) : Bool := decide (numAt s 12 2 = 33024)
def vlE (s : ByteArray) : Nat := if tgE s then numAt s 14 2 % 4096 else 0
def tyE (s : ByteArray) : Nat := if tgE s then numAt s 16 2 else numAt s 12 2
def bdE (s : ByteArray) : ByteArray := s.extract (if tgE s then 18 else 14) s.size
def erE (s : ByteArray) : Int := if s.size < 14 then 3 else if tgE s then (if s.size < 18 then 3 else if numAt s 14 2 / 4096 % 2 = 1 ∨ numAt s 14 2 % 4096 = 4095 ∨ numAt s 16 2 < 1536 ∨ numAt s 16 2 = 33024 then 5 else 0) else if numAt s 12 2 < 1536 then 5 else 0
def eX (s : ByteArray) (pr : Nat) : List Value := if erE s = 0 then fls (eS ((pad6 (s.extract 0 6)).map byteV) ((pad6 (s.extract 6 12)).map byteV) (tgE s) pr (vlE s) (tyE s) (bdE s)) else eZ
theorem eRead_any (hs : s.size ≤ 800) : ∃ pr, ∀ w, Gives Tryz.prog 16 #[.string s] w (.tuple #[.agg (eX s pr).toArray, .int .i64 (erE s)]) := by
  obtain ⟨k1, b1, x1, m1⟩ := RdT.of (s := s) (k := 0) false 6 (by omega) (by omega)
  obtain ⟨k2, b2, x2, m2⟩ := RdT.of b1 6 m1.le (by omega)
  obtain ⟨k3, b3, x3, n1⟩ := RdT.of b2 2 m2.le (by omega)
  unfold eX erE tyE vlE bdE tgE
  by_cases h : s.size < 14
  · have hb : b2 = true ∨ s.size < k2 + 2 := by
      by_cases h6 : s.size < 6
      · exact .inl (m2.no (.inl (m1.no (.inr (by omega))).2.1)).2.1
      · obtain ⟨rfl, rfl, _⟩ := m1.ok (by omega)
        by_cases h12 : s.size < 12
        · exact .inl (m2.no (.inr (by omega))).2.1
        · obtain ⟨rfl, _, _⟩ := m2.ok (by omega); exact .inr (by omega)
    obtain ⟨rfl, rfl, rfl⟩ := n1.no hb
    refine ⟨0, fun w => ?_⟩
    rw [if_pos h, if_neg (by decide)]
    exact eReadU hs m1 m2 n1 (T := 0) rfl (by omega) (by omega) rfl
  obtain ⟨e1, e2, e3⟩ := m1.ok (by omega)
  simp only [Nat.zero_add] at e1 e3
  subst e1 e2 e3
  obtain ⟨e1, e2, e3⟩ := m2.ok (by omega)
  simp only [Nat.reduceAdd] at e1 e3
  subst e1 e2 e3
  obtain ⟨e1, e2, e3⟩ := n1.ok (by omega)
  simp only [Nat.reduceAdd] at e1 e3
  subst e1 e2 e3
  have l1 := num2_lt s 12
  have l2 := num2_lt s 14
  have l3 := num2_lt s 16
  rw [if_neg h]
  by_cases ht : numAt s 12 2 = 33024
  · simp only [ht, decide_true, if_true]
    have v1 : NumX (s.extract 12 14) 33024 := by rw [← ht]; exact numX_at s 12 2
    obtain ⟨k4, b4, x4, n2⟩ := RdT.of (s := s) (k := 14) false 2 (by omega) (by omega)
    obtain ⟨k5, b5, x5, n3⟩ := RdT.of b4 2 n2.le (by omega)
    by_cases h8 : s.size < 18
    · have hb : b4 = true ∨ s.size < k4 + 2 := by
        by_cases h6 : s.size < 16
        · exact .inl (n2.no (.inr (by omega))).2.1
        · obtain ⟨rfl, _, _⟩ := n2.ok (by omega); exact .inr (by omega)
      obtain ⟨rfl, rfl, rfl⟩ := n3.no hb
      have hx : numL x4.data.toList < 65536 := by
        have h1 := numL_lt x4.data.toList
        have h2 := n2.sz
        rw [size_toList] at h1
        exact Nat.lt_of_lt_of_le h1 (Nat.pow_le_pow_right (n := 256) (by omega) h2)
      refine ⟨0, fun w => ?_⟩
      rw [if_pos h8, if_neg (by decide)]
      exact eReadT hs m1 m2 n1 v1 n2 rfl n3 (T2 := 0) rfl hx (by omega) (Nat.mod_lt _ (by omega)) (Nat.mod_lt _ (by omega)) (Nat.mod_lt _ (by omega)) (bits_is (a := 13) (b := 3) (by omega) (by omega) (by omega) rfl) (bits_is (a := 0) (b := 12) (by omega) (by omega) (by omega) rfl) (bits_is (a := 12) (b := 1) (by omega) (by omega) (by omega) rfl) rfl rfl rfl rfl
    obtain ⟨e1, e2, e3⟩ := n2.ok (by omega)
    simp only [Nat.reduceAdd] at e1 e3
    subst e1 e2 e3
    obtain ⟨e1, e2, e3⟩ := n3.ok (by omega)
    simp only [Nat.reduceAdd] at e1 e3
    subst e1 e2 e3
    rw [if_neg h8]
    refine ⟨numAt s 14 2 / 2 ^ 13 % 2 ^ 3, fun w => ?_⟩
    have := eReadT (w := w) hs m1 m2 n1 v1 n2 (numX_at s 14 2) n3 (numX_at s 16 2) l2 l3 (Nat.mod_lt _ (by omega)) (Nat.mod_lt _ (by omega)) (Nat.mod_lt _ (by omega)) (bits_is (a := 13) (b := 3) (by omega) (by omega) (by omega) rfl) (bits_is (a := 0) (b := 12) (by omega) (by omega) (by omega) rfl) (bits_is (a := 12) (b := 1) (by omega) (by omega) (by omega) rfl) rfl rfl rfl rfl
    have e : (((((numAt s 14 2 / 2 ^ 12 % 2 ^ 1 : Nat) : Int) == 1) || (decide (4094 < ((numAt s 14 2 / 2 ^ 0 % 2 ^ 12 : Nat) : Int)) || (decide ((numAt s 16 2 : Int) < 1536) || ((numAt s 16 2 : Int) == 33024)))) = true) = (numAt s 14 2 / 4096 % 2 = 1 ∨ numAt s 14 2 % 4096 = 4095 ∨ numAt s 16 2 < 1536 ∨ numAt s 16 2 = 33024) := by
      simp only [eq_iff_iff, Bool.or_eq_true, beq_iff_eq, decide_eq_true_eq]
      omega
    simp only [Bool.false_or, Bool.false_eq_true, if_false, e] at this
    by_cases hc : numAt s 14 2 / 4096 % 2 = 1 ∨ numAt s 14 2 % 4096 = 4095 ∨ numAt s 16 2 < 1536 ∨ numAt s 16 2 = 33024
    · simp only [if_pos hc] at this ⊢; exact this
    · simp only [if_neg hc] at this ⊢; simpa using this
  · simp only [ht, decide_false, Bool.false_eq_true, if_false]
    have := fun w => eReadU (w := w) hs m1 m2 n1 (numX_at s 12 2) l1 ht rfl
    refine ⟨0, fun w => ?_⟩
    have := this w
    have e : ((numAt s 12 2 : Int) < 1536) = (numAt s 12 2 < 1536) := by rw [eq_iff_iff]; omega
    simp only [Bool.false_or, Bool.false_eq_true, if_false, decide_eq_true_eq, e] at this
    by_cases hc : numAt s 12 2 < 1536
    · simp only [if_pos hc] at this ⊢; exact this
    · simp only [if_neg hc] at this ⊢; simpa using this
end
end Go.Proofs.YtdnehjhijmeihaaGreat
