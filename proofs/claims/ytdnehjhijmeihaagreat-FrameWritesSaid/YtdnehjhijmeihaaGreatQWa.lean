/-
  Joined texts: Wa, Wb, Wc, Wd.
-/
import Derived.Test.YtdnehjhijmeihaaGreatQJ4
import Derived.Test.YtdnehjhijmeihaaGreatQGq
import Derived.Test.YtdnehjhijmeihaaGreatQJ6
import Derived.Test.YtdnehjhijmeihaaGreatQJe
namespace Go.Proofs.YtdnehjhijmeihaaGreat
open Go.ChangeShapes Go.WideShapes Go.ChangeAt Go.RowKit
set_option linter.unusedVariables false
set_option linter.unusedSimpArgs false
set_option maxRecDepth 20000
attribute [local irreducible] wpList
set_option maxHeartbeats 4000000
theorem wnK8 {k : Nat} (h : k ≤ 8) : wn (k : Int) 8 = k := by unfold wn within; split; omega; split <;> omega
def h4L (hop pr : Nat) (al : Bool) (n : Nat) : List UInt8 := putL (if al then 70 else 69) 1 ++ (putL 0 1 ++ (putL ((if al then 24 else 20) + n) 2 ++ (putL 0 2 ++ (putL 0 2 ++ (putL hop 1 ++ putL pr 1)))))
def o4L (al : Bool) : List UInt8 := if al then [148, 4, 0, 0] else []
def t4L (f a : Ad) (al : Bool) : List UInt8 := bytesA f.v f.b ++ (bytesA a.v a.b ++ o4L al)
def w4L (hop pr : Nat) (f a : Ad) (al : Bool) (d : ByteArray) : List UInt8 := h4L hop pr al d.size ++ (putL (65535 - foldN (wsum (h4L hop pr al d.size ++ t4L f a al))) 2 ++ (t4L f a al ++ d.data.toList))
def w4 (hop pr : Nat) (f a : Ad) (al : Bool) (d : ByteArray) : ByteArray := str (w4L hop pr f a al d)
section
variable {w : World} {f a : Ad} {hop pr : Nat} {al : Bool} {d : ByteArray} {F A : List Value}
theorem oPut {n k : Nat} (hn : n < 18446744073709551616) (hk : k ≤ 8) : Gives Tryz.prog 140 #[.int .u64 (n : Int), .int .i64 (k : Int)] w (.string (str (putL n k))) := by
  have := Put_any (n := n) (wide := (k : Int)) (w := w) hn
  rwa [wnK8 hk] at this
theorem pPut {n k : Nat} (hn : n < 9223372036854775808) (hk : k ≤ 8) : Gives Tryz.prog 137 #[.int .i64 (n : Int), .int .i64 (k : Int)] w (.string (str (putL n k))) := by
  have f : ∀ w, Gives Tryz.prog 140 #[.int .u64 (n : Int), .int .i64 (k : Int)] w (.string (str (putL n k))) := fun w => oPut (by omega) hk
  refine Gives.of ?_
  generalize str (putL n k) = r at *
  have hH := Hp.refl w
  go_enter Tryz.func137, Tryz.ntmps137
  go_wp2_with (refine st ?_; clear hH; first | intro W g hH | intro W hH)
  go_ret
  exact ⟨rfl, hH.below⟩
theorem in_any {k : Nat} (hk : k = 8 ∨ k = 16 ∨ k = 20) {l : List Nat} {g c : Nat} (hl : l.length ≤ 10) (hb : ∀ n ∈ l, n < 256) (h : ∀ j (hj : j < l.length), OldC w ⟨g, j, none⟩ (.int .i64 (l[j] : Int))) : Gives Tryz.prog 185 #[.int .u64 (k : Int), .slice (some ⟨g, 0, none⟩) l.length c] w (.bool true) := by
  refine Gives.of ?_
  have HC := Lib.hid h
  have HB := Lib.hid hb
  clear h hb
  have hH := Hp.refl w
  rcases hk with rfl | rfl | rfl
  all_goals
    go_enter Tryz.func185, Tryz.ntmps185
    go_wp2_with (refine st ?_; clear hH; first | intro W g hH | intro W hH)
    go_loopw [9] (fun i wr => ∃ j : Nat, i = .int .i64 (j : Int) ∧ j ≤ l.length ∧ Hp w.heap.size w wr []) (fun i _ => l.length - (intOf i).toNat)
    case atStart => exact ⟨0, rfl, by omega, hH⟩
    case round =>
      clear hH
      obtain ⟨j, rfl, hj, hH⟩ := hrel
      by_cases hjl : j < l.length
      · have dj : decide (j < l.length) = true := decide_eq_true hjl
        have fC := HC.out j hjl
        have hn := HB.out _ (List.getElem_mem hjl)
        generalize l[j] = n at *
        have d1 : decide ((n : Int) < 0) = false := decide_eq_false (by omega)
        have d2 : ((n : Int) / 256 != 0) = false := by simp; omega
        have d3 : ((n : Int) / 65536 != 0) = false := by simp; omega
        have d4 : ((n : Int) / 1048576 != 0) = false := by simp; omega
        go_wp2_with (first | ((refine gL rfl ?_; refine hLo tab_ok rfl ?_ rfl hH rfl rfl ?_; (focus first|exact wN rfl|exact rfl); refine ⟨_, fC, ?_⟩; (clear hH; (first | intro W g hH | intro W hH); (try simp only [Act.put, pA, pB, pC])))) | (refine st ?_; clear hH; first | intro W g hH | intro W hH))
        exact ⟨⟨j + 1, by simp, by omega, hH⟩, by simp [intOf]; omega⟩
      · obtain rfl : j = l.length := by omega
        have dj : decide (l.length < l.length) = false := decide_eq_false hjl
        go_wp2_with (refine st ?_; clear hH; first | intro W g hH | intro W hH)
        go_ret
        exact ⟨rfl, hH.below⟩
theorem oldc_row {g : Nat} {t : TypeId} {l : List Value} (hr : Row w g t l.toArray) {j : Nat} {v : Value} (hj : l[j]? = some v) : OldC w ⟨g, j, none⟩ v :=
  ⟨by rw [hr.cell, List.getElem?_toArray, hj], hr.lt⟩
theorem in3 {g c x y : Nat} {t : TypeId} (hx : x < 256) (hy : y < 256) (hr : Row w g t (fls [.one (.int .i64 0), .one (.int .i64 (x : Int)), .one (.int .i64 (y : Int))]).toArray) : Gives Tryz.prog 185 #[.int .u64 8, .slice (some ⟨g, 0, none⟩) 3 c] w (.bool true) :=
  in_any (k := 8) (.inl rfl) (l := [0, x, y]) (by simp) (by simp; omega) (fun j hj => by
    have : j = 0 ∨ j = 1 ∨ j = 2 := by simp at hj; omega
    rcases this with rfl | rfl | rfl <;> exact oldc_row hr rfl)
theorem in1 {g c : Nat} {t : TypeId} (hr : Row w g t (fls [.one (.int .i64 0)]).toArray) : Gives Tryz.prog 185 #[.int .u64 16, .slice (some ⟨g, 0, none⟩) 1 c] w (.bool true) :=
  in_any (k := 16) (.inr (.inl rfl)) (l := [0]) (by decide) (by decide) (fun j hj => by
    obtain rfl : j = 0 := by simp at hj; omega
    exact oldc_row hr rfl)
theorem four_any (hv : a.v = false) (hg : goodA a.v a.b = true) : Gives Tryz.prog 184 #[.agg (fls [.many (adL a) 17]).toArray] w (.bool true) := by
  refine Gives.of ?_
  have oA := adL_ok a
  have zA := adL_0 a
  rw [hv] at zA
  have f : ∀ w, Gives Tryz.prog 71 #[.agg (fls [.many (adL a) 17]).toArray] w (.bool true) := fun w => by rw [← rg_segs, ← hg]; exact aGood_any a.h
  generalize adL a = A at *
  have hH := Hp.refl w
  go_enter Tryz.func184, Tryz.ntmps184
  go_wp2_with (refine st ?_; clear hH; first | intro W g hH | intro W hH)
  go_ret
  exact ⟨rfl, hH.below⟩
theorem ip4Good_any (hh : hop < 256) (hp : pr < 256) (hf : f.v = false) (ha : a.v = false) (gf : goodA f.v f.b = true) (ga : goodA a.v a.b = true) (hd : d.size ≤ 1400) : Gives Tryz.prog 136 #[.agg (fls (pS4 0 0 hop pr (adL f) (adL a) al d)).toArray] w (.bool true) := by
  refine Gives.of ?_
  have oG := adL_ok a
  have oF := adL_ok f
  have f1 : ∀ w, Gives Tryz.prog 184 #[.agg (fls [.many (adL f) 17]).toArray] w (.bool true) := fun w => four_any hf gf
  have f2 : ∀ w, Gives Tryz.prog 184 #[.agg (fls [.many (adL a) 17]).toArray] w (.bool true) := fun w => four_any ha ga
  have H3 := Lib.hid (fun W g c t hr => in3 (w := W) (g := g) (c := c) (t := t) hh hp hr)
  have H1 := Lib.hid (fun W g c t hr => in1 (w := W) (g := g) (c := c) (t := t) hr)
  have e5 : decide ((d.size : Int) ≤ 1400) = true := decide_eq_true (by omega)
  clear gf ga hf ha
  unfold pS4
  generalize adL a = A at *
  generalize adL f = F at *
  have hH := Hp.refl w
  go_enter Tryz.func136, Tryz.ntmps136
  go_wp2_with (first | ((go_at_call 185; refine callR 0 hH rfl (fun hr => by first | exact H3.out _ _ _ _ hr | exact H1.out _ _ _ _ hr) ?_; (clear hH; (first | intro W g hH | intro W hH); (try simp only [Act.put, pA, pB, pC])))) | (refine st ?_; clear hH; first | intro W g hH | intro W hH))
  go_ret
  exact ⟨rfl, hH.below⟩
theorem ip4Head_any (oA : OkA A 17) (oF : OkA F 17) : Gives Tryz.prog 138 #[.agg (fls (pS4 0 0 hop pr F A al d)).toArray] w (.int .i64 (if al then 24 else 20)) := by
  refine Gives.of ?_
  unfold pS4
  cases al
  all_goals have hH := Hp.refl w
  all_goals go_enter Tryz.func138, Tryz.ntmps138
  all_goals go_wp2_with (refine st ?_; clear hH; first | intro W g hH | intro W hH)
  all_goals go_ret
  all_goals exact ⟨rfl, hH.below⟩
theorem ip4Size_any (hd : d.size ≤ 1400) (oA : OkA A 17) (oF : OkA F 17) : Gives Tryz.prog 139 #[.agg (fls (pS4 0 0 hop pr F A al d)).toArray] w (.int .i64 ((if al then 24 else 20 : Nat) + d.size : Nat)) := by
  refine Gives.of ?_
  have f : ∀ w, Gives Tryz.prog 138 #[.agg (fls (pS4 0 0 hop pr F A al d)).toArray] w (.int .i64 (if al then 24 else 20)) := fun w => ip4Head_any oA oF
  unfold pS4 at *
  have hH := Hp.refl w
  cases al
  all_goals simp only [Bool.false_eq_true, if_true, if_false] at f ⊢
  all_goals go_enter Tryz.func139, Tryz.ntmps139
  all_goals go_wp2_with (refine st ?_; clear hH; first | intro W g hH | intro W hH)
  all_goals (refine rq ?_; clear hH; intro W hH)
  all_goals go_wp2_with (refine st ?_; clear hH; first | intro W g hH | intro W hH)
  all_goals go_ret
  all_goals exact ⟨by go_num, hH.below⟩
end
section
variable {w : World} {f a : Ad} {hop pr : Nat} {al : Bool} {d : ByteArray} {F A : List Value}
theorem aBytes4 {a : Ad} : Gives Tryz.prog 132 #[.agg (fls [.many (adL a) 17]).toArray] w (.string (str (bytesA a.v a.b))) := by
  unfold adL; rw [addr_segs1]; exact aBytes_any a.h
theorem six70 : bits BinOp.or IntKind.i64 64 6 = 70 := by decide +kernel
theorem six69 : bits BinOp.or IntKind.i64 64 5 = 69 := by decide +kernel
theorem ip4Write_any (hh : hop < 256) (hp : pr < 256) (hf : f.v = false) (ha : a.v = false) (gf : goodA f.v f.b = true) (ga : goodA a.v a.b = true) (hd : d.size ≤ 1400) : Gives Tryz.prog 81 #[.agg (fls (pS4 0 0 hop pr (adL f) (adL a) al d)).toArray] w (.tuple #[.string (w4 hop pr f a al d), .int .i64 0]) := by
  refine Gives.of ?_
  have oG := adL_ok a
  have oF := adL_ok f
  have fg : ∀ w, Gives Tryz.prog 136 #[.agg (fls (pS4 0 0 hop pr (adL f) (adL a) al d)).toArray] w (.bool true) := fun w => ip4Good_any hh hp hf ha gf ga hd
  have fh : ∀ w, Gives Tryz.prog 138 #[.agg (fls (pS4 0 0 hop pr (adL f) (adL a) al d)).toArray] w (.int .i64 (if al then 24 else 20)) := fun w => ip4Head_any oG oF
  have fs : ∀ w, Gives Tryz.prog 139 #[.agg (fls (pS4 0 0 hop pr (adL f) (adL a) al d)).toArray] w (.int .i64 (((if al then 24 else 20) + d.size : Nat) : Int)) := fun w => ip4Size_any hd oG oF
  have fG : ∀ w, Gives Tryz.prog 132 #[.agg (fls [.many (adL a) 17]).toArray] w (.string (str (bytesA a.v a.b))) := fun w => aBytes4
  have fF : ∀ w, Gives Tryz.prog 132 #[.agg (fls [.many (adL f) 17]).toArray] w (.string (str (bytesA f.v f.b))) := fun w => aBytes4
  have p1 : ∀ w, Gives Tryz.prog 137 #[.int .i64 ((if al then 70 else 69 : Nat) : Int), .int .i64 1] w (.string (str (putL (if al then 70 else 69) 1))) := fun w => pPut (k := 1) (by split <;> omega) (by omega)
  have p2 : ∀ w, Gives Tryz.prog 137 #[.int .i64 0, .int .i64 1] w (.string (str (putL 0 1))) := fun w => pPut (n := 0) (k := 1) (by omega) (by omega)
  have p3 : ∀ w, Gives Tryz.prog 137 #[.int .i64 (((if al then 24 else 20) + d.size : Nat) : Int), .int .i64 2] w (.string (str (putL ((if al then 24 else 20) + d.size) 2))) := fun w => pPut (k := 2) (by split <;> omega) (by omega)
  have p4 : ∀ w, Gives Tryz.prog 137 #[.int .i64 0, .int .i64 2] w (.string (str (putL 0 2))) := fun w => pPut (n := 0) (k := 2) (by omega) (by omega)
  have p5 : ∀ w, Gives Tryz.prog 137 #[.int .i64 (hop : Int), .int .i64 1] w (.string (str (putL hop 1))) := fun w => pPut (k := 1) (by omega) (by omega)
  have p6 : ∀ w, Gives Tryz.prog 137 #[.int .i64 (pr : Int), .int .i64 1] w (.string (str (putL pr 1))) := fun w => pPut (k := 1) (by omega) (by omega)
  have hbf := bytesA_le f
  have hba := bytesA_le a
  obtain ⟨C, hC⟩ : ∃ C, 65535 - foldN (wsum (h4L hop pr al d.size ++ t4L f a al)) = C := ⟨_, rfl⟩
  have p7 : ∀ w, Gives Tryz.prog 137 #[.int .i64 (C : Int), .int .i64 2] w (.string (str (putL C 2))) := fun w => pPut (k := 2) (by omega) (by omega)
  have hck := Lib.hid (show ∀ w g c X Y, X = str (h4L hop pr al d.size) → Y = str (t4L f a al) → Row w g 9 (fls [.one (.string X), .one (.string Y)]).toArray → Gives Tryz.prog 128 #[.slice (some ⟨g, 0, none⟩) 2 c] w (.int .i64 (C : Int)) from fun w g c X Y hX hY hr => by
    subst hX hY
    have := Check_row (c := c) (ss := [str (h4L hop pr al d.size), str (t4L f a al)]) (m := 2) rfl (small2 (by rw [str_size]; unfold h4L; simp only [List.length_append, putL_length]; omega) (by rw [str_size]; unfold t4L o4L; simp only [List.length_append]; split <;> simp only [List.length_cons, List.length_nil] <;> omega)) (w := w) (g := g) (by simpa [fls] using hr)
    rwa [show flat [str (h4L hop pr al d.size), str (t4L f a al)] = h4L hop pr al d.size ++ t4L f a al by simp [flat, str], hC] at this)
  have E := Lib.hid (show str (h4L hop pr al d.size) ++ str (putL C 2) ++ str (t4L f a al) ++ d = w4 hop pr f a al d by
    unfold w4 w4L
    rw [hC]
    apply data_inj
    simp [str])
  rw [← E.out]
  clear E
  unfold h4L t4L o4L at *
  clear hC
  have z1 := str_size (putL (if al then 70 else 69) 1)
  have z2 := str_size (putL 0 1)
  have z3 := str_size (putL ((if al then 24 else 20) + d.size) 2)
  have z4 := str_size (putL 0 2)
  have z5 := str_size (putL hop 1)
  have z6 := str_size (putL pr 1)
  have z7 := str_size (putL C 2)
  have z8 : (str (bytesA f.v f.b)).size ≤ 16 := by rw [str_size]; exact hbf
  have z9 : (str (bytesA a.v a.b)).size ≤ 16 := by rw [str_size]; exact hba
  clear hbf hba
  rw [putL_length] at z1 z2 z3 z4 z5 z6 z7
  have hal : str [148, 4, 0, 0] = ⟨#[148, 4, 0, 0]⟩ := rfl
  have S1 : str (putL (if al then 70 else 69) 1 ++ (putL 0 1 ++ (putL ((if al then 24 else 20) + d.size) 2 ++ (putL 0 2 ++ (putL 0 2 ++ (putL hop 1 ++ putL pr 1)))))) = str (putL (if al then 70 else 69) 1) ++ str (putL 0 1) ++ str (putL ((if al then 24 else 20) + d.size) 2) ++ str (putL 0 2) ++ str (putL 0 2) ++ str (putL hop 1) ++ str (putL pr 1) := by simp only [str_append, List.append_assoc]
  have S2 : str (bytesA f.v f.b ++ (bytesA a.v a.b ++ (if al then [148, 4, 0, 0] else []))) = if al then str (bytesA f.v f.b) ++ str (bytesA a.v a.b) ++ ⟨#[148, 4, 0, 0]⟩ else str (bytesA f.v f.b) ++ str (bytesA a.v a.b) := by
    cases al
    · simp [str_append]
    · simp only [if_true]; rw [← hal]; simp only [str_append, List.append_assoc]
  rw [S1, S2] at hck ⊢
  clear S1 S2 hal
  have e6 := six70
  have e5 := six69
  generalize str (putL C 2) = x7 at *
  generalize str (bytesA f.v f.b) = x8 at *
  generalize str (bytesA a.v a.b) = x9 at *
  generalize str (putL hop 1) = x5 at *
  generalize str (putL pr 1) = x6 at *
  generalize str (putL 0 1) = x2 at *
  generalize str (putL 0 2) = x4 at *
  cases al
  all_goals simp only [Bool.false_eq_true, if_true, if_false] at *
  all_goals simp only [show ((70 : Nat) : Int) = 70 from rfl, show ((69 : Nat) : Int) = 69 from rfl] at p1
  all_goals unfold pS4 at *
  all_goals generalize adL a = A at *
  all_goals generalize adL f = F at *
  rotate_left
  (focus (generalize str (putL 70 1) = x1 at *; generalize str (putL (24 + d.size) 2) = x3 at *; generalize 24 + d.size = Z at *))
  rotate_left
  (focus (generalize str (putL 69 1) = x1 at *; generalize str (putL (20 + d.size) 2) = x3 at *; generalize 20 + d.size = Z at *))
  all_goals have hH := Hp.refl w
  all_goals go_enter Tryz.func81, Tryz.ntmps81
  all_goals go_wp2_with (refine st ?_; clear hH; first | intro W g hH | intro W hH)
  all_goals (refine rq ?_; clear hH; intro W hH)
  all_goals go_wp2_with (refine st ?_; clear hH; first | intro W g hH | intro W hH)
  all_goals (refine rq ?_; clear hH; intro W hH)
  all_goals go_wp2_with (refine st ?_; clear hH; first | intro W g hH | intro W hH)
  all_goals ((with_reducible apply regK1 [] hH (SubH.refl) (by kernel_rfl)); (focus ((intro W hH); refine kt [0, 1, 2, 7, 9] ?_; refine kl [10] ?_; refine ko 3 ?_; go_wp2_with (first | ((go_at_call 128; refine callR 0 hH rfl (fun hr => hck.out _ _ _ _ _ rfl rfl hr) ?_; (clear hH; (first | intro W g hH | intro W hH); (try simp only [Act.put, pA, pB, pC])))) | (refine st ?_; clear hH; first | intro W g hH | intro W hH)); refine ke ?_; refine ko 4 ?_; go_wp2_with (first | ((go_at_call 128; refine callR 0 hH rfl (fun hr => hck.out _ _ _ _ _ rfl rfl hr) ?_; (clear hH; (first | intro W g hH | intro W hH); (try simp only [Act.put, pA, pB, pC])))) | (refine st ?_; clear hH; first | intro W g hH | intro W hH)); refine ke ?_; refine ko 5 ?_; go_wp2_with (first | ((go_at_call 128; refine callR 0 hH rfl (fun hr => hck.out _ _ _ _ _ rfl rfl hr) ?_; (clear hH; (first | intro W g hH | intro W hH); (try simp only [Act.put, pA, pB, pC])))) | (refine st ?_; clear hH; first | intro W g hH | intro W hH)); refine ke ?_; refine kt [6, 8, 11, 12, 13] ?_; exact hk_end (by kernel_rfl) ⟨g, rfl, hH⟩)); ((try clear hH); intro W g hH))
  all_goals go_wp2_with (refine st ?_; clear hH; first | intro W g hH | intro W hH)
  all_goals go_ret2
  all_goals exact ⟨rfl, hH.below⟩
theorem rPut {n k : Nat} (hn : n < 18446744073709551616) (hk : k ≤ 8) : Gives Tryz.prog 100 #[.int .u64 (n : Int), .int .i64 (k : Int)] w (.string (str (putL n k))) := by
  have := rput_any (n := n) (wide := (k : Int)) (w := w) hn
  rwa [wnK8 hk] at this
theorem rnum05 {n k : Nat} (hn : n < 9223372036854775808) (hk : k ≤ 8) : Gives Tryz.prog 98 #[.int .i64 (n : Int), .int .i64 (k : Int)] w (.string (str (putL n k))) := by
  have f : ∀ w, Gives Tryz.prog 100 #[.int .u64 (n : Int), .int .i64 (k : Int)] w (.string (str (putL n k))) := fun w => rPut (by omega) hk
  refine Gives.of ?_
  generalize str (putL n k) = r at *
  have hH := Hp.refl w
  go_enter Tryz.func98, Tryz.ntmps98
  go_wp2_with (refine st ?_; clear hH; first | intro W g hH | intro W hH)
  go_ret
  exact ⟨rfl, hH.below⟩
theorem r4Write_any (hh : hop < 256) (hp : pr < 256) (hd : d.size ≤ 1400) : Gives Tryz.prog 45 #[.agg (fls (pS4 0 0 hop pr (adL f) (adL a) al d)).toArray] w (.string (w4 hop pr f a al d)) := by
  refine Gives.of ?_
  have oG := adL_ok a
  have oF := adL_ok f
  have fG : ∀ w, Gives Tryz.prog 91 #[.agg (fls [.many (adL a) 17]).toArray] w (.string (str (bytesA a.v a.b))) := fun w => rbytes08 a
  have fF : ∀ w, Gives Tryz.prog 91 #[.agg (fls [.many (adL f) 17]).toArray] w (.string (str (bytesA f.v f.b))) := fun w => rbytes08 f
  have p1 : ∀ w, Gives Tryz.prog 98 #[.int .i64 ((if al then 70 else 69 : Nat) : Int), .int .i64 1] w (.string (str (putL (if al then 70 else 69) 1))) := fun w => rnum05 (k := 1) (by split <;> omega) (by omega)
  have p2 : ∀ w, Gives Tryz.prog 98 #[.int .i64 0, .int .i64 1] w (.string (str (putL 0 1))) := fun w => rnum05 (n := 0) (k := 1) (by omega) (by omega)
  have p3 : ∀ w, Gives Tryz.prog 98 #[.int .i64 ((if al then 24 else 20 : Int) + (d.size : Int)), .int .i64 2] w (.string (str (putL ((if al then 24 else 20) + d.size) 2))) := fun w => by
    have := rnum05 (n := (if al then 24 else 20) + d.size) (k := 2) (w := w) (by split <;> omega) (by omega)
    rwa [show (((if al then 24 else 20) + d.size : Nat) : Int) = (if al then 24 else 20 : Int) + (d.size : Int) by cases al <;> simp] at this
  have p4 : ∀ w, Gives Tryz.prog 98 #[.int .i64 0, .int .i64 2] w (.string (str (putL 0 2))) := fun w => rnum05 (n := 0) (k := 2) (by omega) (by omega)
  have p5 : ∀ w, Gives Tryz.prog 98 #[.int .i64 (hop : Int), .int .i64 1] w (.string (str (putL hop 1))) := fun w => rnum05 (k := 1) (by omega) (by omega)
  have p6 : ∀ w, Gives Tryz.prog 98 #[.int .i64 (pr : Int), .int .i64 1] w (.string (str (putL pr 1))) := fun w => rnum05 (k := 1) (by omega) (by omega)
  have hbf := bytesA_le f
  have hba := bytesA_le a
  have hfl := foldN_le (wsum (h4L hop pr al d.size ++ t4L f a al))
  have hS := Lib.hid (show ∀ w X, X = str (h4L hop pr al d.size) ++ str (t4L f a al) → Gives Tryz.prog 58 #[.string X] w (.int .i64 (foldN (wsum (h4L hop pr al d.size ++ t4L f a al)) : Int)) from fun w X hX => by
    subst hX
    have h := rSum_any (s := str (h4L hop pr al d.size) ++ str (t4L f a al)) (w := w) (by
      rw [ByteArray.size_append, str_size, str_size]; unfold h4L t4L o4L; simp only [List.length_append, putL_length]; split <;> simp only [List.length_cons, List.length_nil] <;> omega)
    rwa [show (str (h4L hop pr al d.size) ++ str (t4L f a al)).data.toList = h4L hop pr al d.size ++ t4L f a al by simp [str]] at h)
  obtain ⟨C, hC⟩ : ∃ C, 65535 - foldN (wsum (h4L hop pr al d.size ++ t4L f a al)) = C := ⟨_, rfl⟩
  have p7 : ∀ w, Gives Tryz.prog 98 #[.int .i64 (65535 - (foldN (wsum (h4L hop pr al d.size ++ t4L f a al)) : Int)), .int .i64 2] w (.string (str (putL C 2))) := fun w => by
    have := rnum05 (n := C) (k := 2) (w := w) (by omega) (by omega)
    rwa [show (C : Int) = 65535 - (foldN (wsum (h4L hop pr al d.size ++ t4L f a al)) : Int) by omega] at this
  have E := Lib.hid (show str (h4L hop pr al d.size) ++ str (putL C 2) ++ str (t4L f a al) ++ d = w4 hop pr f a al d by
    unfold w4 w4L
    rw [hC]
    apply data_inj
    simp [str])
  rw [← E.out]
  clear E hC
  generalize foldN (wsum (h4L hop pr al d.size ++ t4L f a al)) = fl at *
  unfold h4L t4L o4L at *
  have z1 := str_size (putL (if al then 70 else 69) 1)
  have z2 := str_size (putL 0 1)
  have z3 := str_size (putL ((if al then 24 else 20) + d.size) 2)
  have z4 := str_size (putL 0 2)
  have z5 := str_size (putL hop 1)
  have z6 := str_size (putL pr 1)
  have z7 := str_size (putL C 2)
  have z8 : (str (bytesA f.v f.b)).size ≤ 16 := by rw [str_size]; exact hbf
  have z9 : (str (bytesA a.v a.b)).size ≤ 16 := by rw [str_size]; exact hba
  clear hbf hba
  rw [putL_length] at z1 z2 z3 z4 z5 z6 z7
  have hal : str [148, 4, 0, 0] = ⟨#[148, 4, 0, 0]⟩ := rfl
  have S1 : str (putL (if al then 70 else 69) 1 ++ (putL 0 1 ++ (putL ((if al then 24 else 20) + d.size) 2 ++ (putL 0 2 ++ (putL 0 2 ++ (putL hop 1 ++ putL pr 1)))))) = str (putL (if al then 70 else 69) 1) ++ str (putL 0 1) ++ str (putL ((if al then 24 else 20) + d.size) 2) ++ str (putL 0 2) ++ str (putL 0 2) ++ str (putL hop 1) ++ str (putL pr 1) := by simp only [str_append, List.append_assoc]
  have S2 : str (bytesA f.v f.b ++ (bytesA a.v a.b ++ (if al then [148, 4, 0, 0] else []))) = str (bytesA f.v f.b) ++ str (bytesA a.v a.b) ++ (if al then ⟨#[148, 4, 0, 0]⟩ else ⟨#[]⟩) := by
    cases al
    · show _ = _ ++ str []
      simp [str_append]
    · simp only [if_true]; rw [← hal]; simp only [str_append, List.append_assoc]
  rw [S1, S2] at hS ⊢
  clear S1 S2 hal
  generalize str (putL C 2) = x7 at *
  generalize str (bytesA f.v f.b) = x8 at *
  generalize str (bytesA a.v a.b) = x9 at *
  generalize str (putL hop 1) = x5 at *
  generalize str (putL pr 1) = x6 at *
  generalize str (putL 0 1) = x2 at *
  generalize str (putL 0 2) = x4 at *
  cases al
  all_goals simp only [Bool.false_eq_true, if_true, if_false] at *
  all_goals simp only [show ((70 : Nat) : Int) = 70 from rfl, show ((69 : Nat) : Int) = 69 from rfl] at p1
  all_goals unfold pS4 at *
  all_goals generalize adL a = A at *
  all_goals generalize adL f = F at *
  rotate_left
  (focus (generalize str (putL 70 1) = x1 at *; generalize str (putL (24 + d.size) 2) = x3 at *))
  rotate_left
  (focus (generalize str (putL 69 1) = x1 at *; generalize str (putL (20 + d.size) 2) = x3 at *))
  all_goals have hH := Hp.refl w
  all_goals go_enter Tryz.func45, Tryz.ntmps45
  all_goals go_wp2_with (refine st ?_; clear hH; first | intro W g hH | intro W hH)
  all_goals (refine rq ?_; clear hH; intro W hH)
  all_goals go_wp2_with (refine st ?_; clear hH; first | intro W g hH | intro W hH)
  all_goals (refine rq ?_; clear hH; intro W hH)
  all_goals go_wp2_with (refine st ?_; clear hH; first | intro W g hH | intro W hH)
  all_goals ((with_reducible refine regQ hH (by kernel_rfl) (by kernel_rfl) ?_); intro hne; (repeat (first | (go_big_quiet_want; (first | (refine qiL tab_ok rfl rfl ?_; refine ⟨_, _, rfl, rfl, ?_⟩) | (refine qiLi tab_ok rfl rfl ?_; refine ⟨_, _, _, ?_, rfl, rfl, rfl, ?_, ?_⟩; rotate_left; (focus assumption)) | (refine qBd tab_ok rfl rfl rfl rfl ?_; refine ⟨?_, ?_, ?_⟩; rotate_left; (focus (repeat (first | exact BR.nil | refine BR.one rfl rfl rfl ?_ | (refine BR.row rfl rfl rfl rfl ?_ ?_; (focus (repeat (first | exact trivial | assumption | exact OkA.z (by kernel_rfl) (by kernel_rfl) | refine ⟨rfl, ?_⟩ | refine ⟨?_, ?_⟩))))))))); (try simp only [Act.put, pA, pB, pC]); go_big_quiet_on) | go_big_quiet_step (((with_reducible apply callQ); first | (with_reducible exact p7 _) | (exact hS.out _ _ rfl))))); refine wpQuiet_nil ?_; clear hne hH; intro W hH)
  all_goals go_wp2_with (refine st ?_; clear hH; first | intro W g hH | intro W hH)
  all_goals go_ret
  all_goals exact ⟨rfl, hH.below⟩
end
def o6L (al : Bool) (pr : Nat) : List UInt8 := if al then putL pr 1 ++ [0, 5, 2, 0, 0, 1, 0] else []
def w6L (hop pr : Nat) (f a : Ad) (al : Bool) (d : ByteArray) : List UInt8 := putL 1610612736 4 ++ (putL ((if al then 8 else 0) + d.size) 2 ++ (putL (if al then 0 else pr) 1 ++ (putL hop 1 ++ (bytesA f.v f.b ++ (bytesA a.v a.b ++ (o6L al pr ++ d.data.toList))))))
def w6B (hop pr : Nat) (f a : Ad) (al : Bool) (d : ByteArray) : ByteArray := str (w6L hop pr f a al d)
section
variable {w : World} {f a : Ad} {hop pr : Nat} {al : Bool} {d : ByteArray} {F A : List Value}
theorem qPut {n k : Nat} (hn : n < 9223372036854775808) (hk : k ≤ 8) : Gives Tryz.prog 131 #[.int .i64 (n : Int), .int .i64 (k : Int)] w (.string (str (putL n k))) := by
  have f : ∀ w, Gives Tryz.prog 140 #[.int .u64 (n : Int), .int .i64 (k : Int)] w (.string (str (putL n k))) := fun w => oPut (by omega) hk
  refine Gives.of ?_
  generalize str (putL n k) = r at *
  have hH := Hp.refl w
  go_enter Tryz.func131, Tryz.ntmps131
  go_wp2_with (refine st ?_; clear hH; first | intro W g hH | intro W hH)
  go_ret
  exact ⟨rfl, hH.below⟩
theorem in6_any {k : Nat} (hk : k = 8 ∨ k = 20) {l : List Nat} {g c : Nat} (hl : l.length ≤ 10) (hb : ∀ n ∈ l, n < 256) (h : ∀ j (hj : j < l.length), OldC w ⟨g, j, none⟩ (.int .i64 (l[j] : Int))) : Gives Tryz.prog 176 #[.int .u64 (k : Int), .slice (some ⟨g, 0, none⟩) l.length c] w (.bool true) := by
  refine Gives.of ?_
  have HC := Lib.hid h
  have HB := Lib.hid hb
  clear h hb
  have hH := Hp.refl w
  rcases hk with rfl | rfl
  all_goals
    go_enter Tryz.func176, Tryz.ntmps176
    go_wp2_with (refine st ?_; clear hH; first | intro W g hH | intro W hH)
    go_loopw [9] (fun i wr => ∃ j : Nat, i = .int .i64 (j : Int) ∧ j ≤ l.length ∧ Hp w.heap.size w wr []) (fun i _ => l.length - (intOf i).toNat)
    case atStart => exact ⟨0, rfl, by omega, hH⟩
    case round =>
      clear hH
      obtain ⟨j, rfl, hj, hH⟩ := hrel
      by_cases hjl : j < l.length
      · have dj : decide (j < l.length) = true := decide_eq_true hjl
        have fC := HC.out j hjl
        have hn := HB.out _ (List.getElem_mem hjl)
        generalize l[j] = n at *
        have d1 : decide ((n : Int) < 0) = false := decide_eq_false (by omega)
        have d2 : ((n : Int) / 256 != 0) = false := by simp; omega
        have d4 : ((n : Int) / 1048576 != 0) = false := by simp; omega
        go_wp2_with (first | ((refine gL rfl ?_; refine hLo tab_ok rfl ?_ rfl hH rfl rfl ?_; (focus first|exact wN rfl|exact rfl); refine ⟨_, fC, ?_⟩; (clear hH; (first | intro W g hH | intro W hH); (try simp only [Act.put, pA, pB, pC])))) | (refine st ?_; clear hH; first | intro W g hH | intro W hH))
        exact ⟨⟨j + 1, by simp, by omega, hH⟩, by simp [intOf]; omega⟩
      · obtain rfl : j = l.length := by omega
        have dj : decide (l.length < l.length) = false := decide_eq_false hjl
        go_wp2_with (refine st ?_; clear hH; first | intro W g hH | intro W hH)
        go_ret
        exact ⟨rfl, hH.below⟩
theorem ip6Good_any (hh : hop < 256) (hp : pr < 256) (hp0 : 0 < pr) (hf : f.v = true) (ha : a.v = true) (hd : d.size ≤ 1400) : Gives Tryz.prog 130 #[.agg (fls (pS6 0 0 pr hop (adL f) (adL a) al d)).toArray] w (.bool true) := by
  refine Gives.of ?_
  have oG := adL_ok a
  have oF := adL_ok f
  have zf := adL_0 f
  have za := adL_0 a
  rw [hf] at zf
  rw [ha] at za
  have H3 := Lib.hid (show ∀ W g c t, Row W g t (fls [.one (.int .i64 0), .one (.int .i64 (pr : Int)), .one (.int .i64 (hop : Int))]).toArray → Gives Tryz.prog 176 #[.int .u64 8, .slice (some ⟨g, 0, none⟩) 3 c] W (.bool true) from fun W g c t hr =>
    in6_any (k := 8) (.inl rfl) (l := [0, pr, hop]) (by simp) (by simp; omega) (fun j hj => by
      have : j = 0 ∨ j = 1 ∨ j = 2 := by simp at hj; omega
      rcases this with rfl | rfl | rfl <;> exact oldc_row hr rfl))
  have H1 := Lib.hid (show ∀ W g c t, Row W g t (fls [.one (.int .i64 0)]).toArray → Gives Tryz.prog 176 #[.int .u64 20, .slice (some ⟨g, 0, none⟩) 1 c] W (.bool true) from fun W g c t hr =>
    in6_any (k := 20) (.inr rfl) (l := [0]) (by decide) (by decide) (fun j hj => by
      obtain rfl : j = 0 := by simp at hj; omega
      exact oldc_row hr rfl))
  have e5 : decide ((d.size : Int) ≤ 1400) = true := decide_eq_true (by omega)
  have e6 : ((pr : Int) != 0) = true := by simp; omega
  clear hf ha
  unfold pS6
  generalize adL a = A at *
  generalize adL f = F at *
  have hH := Hp.refl w
  go_enter Tryz.func130, Tryz.ntmps130
  go_wp2_with (first | ((go_at_call 176; refine callR 0 hH rfl (fun hr => by first | exact H3.out _ _ _ _ hr | exact H1.out _ _ _ _ hr) ?_; (clear hH; (first | intro W g hH | intro W hH); (try simp only [Act.put, pA, pB, pC])))) | (refine st ?_; clear hH; first | intro W g hH | intro W hH))
  go_ret
  exact ⟨rfl, hH.below⟩
theorem alert6 : str (putL pr 1 ++ [0, 5, 2, 0, 0, 1, 0]) = str (putL pr 1) ++ ⟨#[0, 5, 2, 0, 0, 1, 0]⟩ := by rw [← str_append]; rfl
theorem b6_is : str (w6L hop pr f a al d) = str (putL 1610612736 4) ++ str (putL ((if al then 8 else 0) + d.size) 2) ++ str (putL (if al then 0 else pr) 1) ++ str (putL hop 1) ++ str (bytesA f.v f.b) ++ str (bytesA a.v a.b) ++ (if al then str (putL pr 1) ++ ⟨#[0, 5, 2, 0, 0, 1, 0]⟩ ++ d else d) := by
  unfold w6L o6L
  cases al
  · apply data_inj; simp [str]
  · simp only [if_true]
    rw [← alert6]
    apply data_inj; simp [str]
theorem ip6Write_any (hh : hop < 256) (hp : pr < 256) (hp0 : 0 < pr) (hf : f.v = true) (ha : a.v = true) (hd : d.size ≤ 1400) : Gives Tryz.prog 79 #[.agg (fls (pS6 0 0 pr hop (adL f) (adL a) al d)).toArray] w (.tuple #[.string (w6B hop pr f a al d), .int .i64 0]) := by
  refine Gives.of ?_
  have oG := adL_ok a
  have oF := adL_ok f
  have fg : ∀ w, Gives Tryz.prog 130 #[.agg (fls (pS6 0 0 pr hop (adL f) (adL a) al d)).toArray] w (.bool true) := fun w => ip6Good_any hh hp hp0 hf ha hd
  have fG : ∀ w, Gives Tryz.prog 132 #[.agg (fls [.many (adL a) 17]).toArray] w (.string (str (bytesA a.v a.b))) := fun w => aBytes4
  have fF : ∀ w, Gives Tryz.prog 132 #[.agg (fls [.many (adL f) 17]).toArray] w (.string (str (bytesA f.v f.b))) := fun w => aBytes4
  have p1 : ∀ w, Gives Tryz.prog 131 #[.int .i64 1610612736, .int .i64 4] w (.string (str (putL 1610612736 4))) := fun w => qPut (n := 1610612736) (k := 4) (by omega) (by omega)
  have p2 : ∀ w, Gives Tryz.prog 131 #[.int .i64 ((if al then 8 else 0 : Int) + (d.size : Int)), .int .i64 2] w (.string (str (putL ((if al then 8 else 0) + d.size) 2))) := fun w => by
    have := qPut (n := (if al then 8 else 0) + d.size) (k := 2) (w := w) (by split <;> omega) (by omega)
    rwa [show (((if al then 8 else 0) + d.size : Nat) : Int) = (if al then 8 else 0 : Int) + (d.size : Int) by cases al <;> simp] at this
  have p3 : ∀ w, Gives Tryz.prog 131 #[.int .i64 (if al then 0 else (pr : Int)), .int .i64 1] w (.string (str (putL (if al then 0 else pr) 1))) := fun w => by
    have := qPut (n := if al then 0 else pr) (k := 1) (w := w) (by split <;> omega) (by omega)
    rwa [show ((if al then 0 else pr : Nat) : Int) = if al then 0 else (pr : Int) by cases al <;> simp] at this
  have p4 : ∀ w, Gives Tryz.prog 131 #[.int .i64 (hop : Int), .int .i64 1] w (.string (str (putL hop 1))) := fun w => qPut (k := 1) (by omega) (by omega)
  have p5 : ∀ w, Gives Tryz.prog 131 #[.int .i64 (pr : Int), .int .i64 1] w (.string (str (putL pr 1))) := fun w => qPut (k := 1) (by omega) (by omega)
  unfold w6B
  rw [b6_is]
  have z1 := str_size (putL 1610612736 4)
  have z2 := str_size (putL ((if al then 8 else 0) + d.size) 2)
  have z3 := str_size (putL (if al then 0 else pr) 1)
  have z4 := str_size (putL hop 1)
  have z5 := str_size (putL pr 1)
  have z8 : (str (bytesA f.v f.b)).size ≤ 16 := by rw [str_size]; exact bytesA_le f
  have z9 : (str (bytesA a.v a.b)).size ≤ 16 := by rw [str_size]; exact bytesA_le a
  rw [putL_length] at z1 z2 z3 z4 z5
  have ho : bits BinOp.or IntKind.i64 1610612736 0 = 1610612736 := by decide +kernel
  generalize str (putL 1610612736 4) = x1 at *
  generalize str (putL ((if al then 8 else 0) + d.size) 2) = x2 at *
  generalize str (putL (if al then 0 else pr) 1) = x3 at *
  generalize str (putL hop 1) = x4 at *
  generalize str (putL pr 1) = x5 at *
  generalize str (bytesA f.v f.b) = x8 at *
  generalize str (bytesA a.v a.b) = x9 at *
  cases al
  all_goals simp only [Bool.false_eq_true, if_true, if_false] at *
  all_goals (try simp only [Int.zero_add] at p2)
  all_goals unfold pS6 at *
  all_goals generalize adL a = A at *
  all_goals generalize adL f = F at *
  all_goals have hH := Hp.refl w
  all_goals go_enter Tryz.func79, Tryz.ntmps79
  all_goals go_wp2_with (refine st ?_; clear hH; first | intro W g hH | intro W hH)
  all_goals (refine rq ?_; clear hH; intro W hH)
  all_goals go_wp2_with (refine st ?_; clear hH; first | intro W g hH | intro W hH)
  all_goals (refine rq ?_; clear hH; intro W hH)
  all_goals go_wp2_with (refine st ?_; clear hH; first | intro W g hH | intro W hH)
  all_goals (try (refine rq ?_; clear hH; intro W hH))
  all_goals (try go_wp2_with (refine st ?_; clear hH; first | intro W g hH | intro W hH))
  all_goals go_ret2
  all_goals exact ⟨rfl, hH.below⟩
theorem rnum06 {n k : Nat} (hn : n < 9223372036854775808) (hk : k ≤ 8) : Gives Tryz.prog 97 #[.int .i64 (n : Int), .int .i64 (k : Int)] w (.string (str (putL n k))) := by
  have f : ∀ w, Gives Tryz.prog 100 #[.int .u64 (n : Int), .int .i64 (k : Int)] w (.string (str (putL n k))) := fun w => rPut (by omega) hk
  refine Gives.of ?_
  generalize str (putL n k) = r at *
  have hH := Hp.refl w
  go_enter Tryz.func97, Tryz.ntmps97
  go_wp2_with (refine st ?_; clear hH; first | intro W g hH | intro W hH)
  go_ret
  exact ⟨rfl, hH.below⟩
theorem h6_is : str (putL 1610612736 4) = str (putL 96 1) ++ str (putL 0 1) ++ str (putL 0 2) := by rw [str_append, str_append]; exact congrArg str (by decide)
theorem z01 : str (putL 0 1) = ⟨#[0]⟩ := by kernel_rfl
theorem r6Write_any (hh : hop < 256) (hp : pr < 256) (hd : d.size ≤ 1400) : Gives Tryz.prog 44 #[.agg (fls (pS6 0 0 pr hop (adL f) (adL a) al d)).toArray] w (.string (w6B hop pr f a al d)) := by
  refine Gives.of ?_
  have oG := adL_ok a
  have oF := adL_ok f
  have fG : ∀ w, Gives Tryz.prog 91 #[.agg (fls [.many (adL a) 17]).toArray] w (.string (str (bytesA a.v a.b))) := fun w => rbytes08 a
  have fF : ∀ w, Gives Tryz.prog 91 #[.agg (fls [.many (adL f) 17]).toArray] w (.string (str (bytesA f.v f.b))) := fun w => rbytes08 f
  have p1 : ∀ w, Gives Tryz.prog 97 #[.int .i64 96, .int .i64 1] w (.string (str (putL 96 1))) := fun w => rnum06 (n := 96) (k := 1) (by omega) (by omega)
  have p6 : ∀ w, Gives Tryz.prog 97 #[.int .i64 0, .int .i64 1] w (.string (str (putL 0 1))) := fun w => rnum06 (n := 0) (k := 1) (by omega) (by omega)
  have p7 : ∀ w, Gives Tryz.prog 97 #[.int .i64 0, .int .i64 2] w (.string (str (putL 0 2))) := fun w => rnum06 (n := 0) (k := 2) (by omega) (by omega)
  have p2 : ∀ w, Gives Tryz.prog 97 #[.int .i64 (if al then (d.size : Int) + 8 else (d.size : Int)), .int .i64 2] w (.string (str (putL ((if al then 8 else 0) + d.size) 2))) := fun w => by
    have := rnum06 (n := (if al then 8 else 0) + d.size) (k := 2) (w := w) (by split <;> omega) (by omega)
    rwa [show (((if al then 8 else 0) + d.size : Nat) : Int) = if al then (d.size : Int) + 8 else (d.size : Int) by cases al <;> simp <;> omega] at this
  have p4 : ∀ w, Gives Tryz.prog 97 #[.int .i64 (hop : Int), .int .i64 1] w (.string (str (putL hop 1))) := fun w => rnum06 (k := 1) (by omega) (by omega)
  have p5 : ∀ w, Gives Tryz.prog 97 #[.int .i64 (pr : Int), .int .i64 1] w (.string (str (putL pr 1))) := fun w => rnum06 (k := 1) (by omega) (by omega)
  unfold w6B
  rw [b6_is, h6_is]
  have z1 := str_size (putL 96 1)
  have z2 := str_size (putL ((if al then 8 else 0) + d.size) 2)
  have z4 := str_size (putL hop 1)
  have z5 := str_size (putL pr 1)
  have z6 := str_size (putL 0 1)
  have z7 := str_size (putL 0 2)
  have z8 : (str (bytesA f.v f.b)).size ≤ 16 := by rw [str_size]; exact bytesA_le f
  have z9 : (str (bytesA a.v a.b)).size ≤ 16 := by rw [str_size]; exact bytesA_le a
  rw [putL_length] at z1 z2 z4 z5 z6 z7
  generalize str (putL 96 1) = x1 at *
  generalize str (putL ((if al then 8 else 0) + d.size) 2) = x2 at *
  generalize str (putL hop 1) = x4 at *
  obtain ⟨x5, h5⟩ : ∃ x, str (putL pr 1) = x := ⟨_, rfl⟩
  rw [h5] at p5 z5 ⊢
  have h5 := Lib.hid h5
  generalize str (putL 0 2) = x7 at *
  generalize str (bytesA f.v f.b) = x8 at *
  generalize str (bytesA a.v a.b) = x9 at *
  have hz := Lib.hid z01
  cases al
  all_goals simp only [Bool.false_eq_true, if_true, if_false] at *
  all_goals generalize str (putL 0 1) = x6 at *
  all_goals unfold pS6 at *
  all_goals generalize adL a = A at *
  all_goals generalize adL f = F at *
  all_goals have hH := Hp.refl w
  all_goals go_enter Tryz.func44, Tryz.ntmps44
  all_goals go_wp2_with (refine st ?_; clear hH; first | intro W g hH | intro W hH)
  all_goals (refine rq ?_; clear hH; intro W hH)
  all_goals go_wp2_with (refine st ?_; clear hH; first | intro W g hH | intro W hH)
  all_goals (refine rq ?_; clear hH; intro W hH)
  all_goals go_wp2_with (refine st ?_; clear hH; first | intro W g hH | intro W hH)
  all_goals (refine rq ?_; clear hH; intro W hH)
  all_goals go_wp2_with (refine st ?_; clear hH; first | intro W g hH | intro W hH)
  all_goals go_ret
  all_goals refine ⟨?_, hH.below⟩
  all_goals refine congrArg (fun b => Ending.returned (.string b)) ?_
  all_goals (try rw [hz.out])
  all_goals (try rw [h5.out])
  all_goals apply data_inj
  all_goals simp
end
def tgL (vl : Nat) : List UInt8 := if 0 < vl then putL 33024 2 ++ putL vl 2 else []
def wEL (xs ys : List UInt8) (vl ty : Nat) (b : ByteArray) : List UInt8 := xs ++ (ys ++ (tgL vl ++ (putL ty 2 ++ b.data.toList)))
def wE (xs ys : List UInt8) (vl ty : Nat) (b : ByteArray) : ByteArray := str (wEL xs ys vl ty b)
section
variable {w : World} {xs ys : List UInt8} {vl ty : Nat} {b : ByteArray} {M N : List Value}
theorem eTwo {n : Nat} (hn : n < 9223372036854775808) : Gives Tryz.prog 83 #[.int .i64 (n : Int)] w (.string (str (putL n 2))) := by
  have f : ∀ w, Gives Tryz.prog 140 #[.int .u64 (n : Int), .int .i64 2] w (.string (str (putL n 2))) := fun w => oPut (k := 2) (by omega) (by omega)
  refine Gives.of ?_
  generalize str (putL n 2) = r at *
  have hH := Hp.refl w
  go_enter Tryz.func83, Tryz.ntmps83
  go_wp2_with (refine st ?_; clear hH; first | intro W g hH | intro W hH)
  go_ret
  exact ⟨rfl, hH.below⟩
theorem eGood_any (oM : OkA M 6) (oN : OkA N 6) (hv : vl ≤ 4094) (ht : ty = 2048 ∨ ty = 34525) (hb : b.size ≤ 1500) : Gives Tryz.prog 82 #[.agg (fls (eS M N (decide (0 < vl)) 0 vl ty b)).toArray] w (.bool true) := by
  refine Gives.of ?_
  have e1 : decide (4094 < (vl : Int)) = false := decide_eq_false (by omega)
  have e2 : decide ((vl : Int) ≤ 4094) = true := decide_eq_true (by omega)
  have e3 : decide (0 ≤ (vl : Int)) = true := decide_eq_true (by omega)
  have e4 : decide (1500 < (b.size : Int)) = false := decide_eq_false (by omega)
  unfold eS
  have hH := Hp.refl w
  by_cases h0 : 0 < vl
  · rw [decide_eq_true h0]
    rcases ht with rfl | rfl
    all_goals go_enter Tryz.func82, Tryz.ntmps82
    all_goals go_wp2_with (refine st ?_; clear hH; first | intro W g hH | intro W hH)
    all_goals go_ret
    all_goals exact ⟨rfl, hH.below⟩
  · obtain rfl : vl = 0 := by omega
    rcases ht with rfl | rfl
    all_goals go_enter Tryz.func82, Tryz.ntmps82
    all_goals go_wp2_with (refine st ?_; clear hH; first | intro W g hH | intro W hH)
    all_goals go_ret
    all_goals exact ⟨rfl, hH.below⟩
theorem mac_str {W : World} {g c : Nat} {t : TypeId} {S : List Seg} (hx : xs.length = 6) (hr : Row W g t (fls (.many (xs.map byteV) 6 :: S)).toArray) : (convert 114 9 (.slice (some ⟨g, 0, none⟩) 6 c)).run Tryz.prog W = .ok (.string (str xs)) W := by
  refine run_str_of Tryz.underlying114 Tryz.underlying5 Tryz.underlying9 hx (fun k b hb => ?_)
  rw [hr.cell, List.getElem?_toArray]
  show (xs.map byteV ++ fls S)[0 + k]? = _
  rw [Nat.zero_add, List.getElem?_append_left (by simpa using (List.getElem?_eq_some_iff.1 hb).1), List.getElem?_map, hb]; rfl
theorem mac_str6 {W : World} {g c : Nat} {t : TypeId} {S : List Seg} {A : List Value} (hA : A.length = 6) (hx : xs.length = 6) (hr : Row W g t (fls (.many A 6 :: .many (xs.map byteV) 6 :: S)).toArray) : (convert 114 9 (.slice (some ⟨g, 6, none⟩) 6 c)).run Tryz.prog W = .ok (.string (str xs)) W := by
  refine run_str_of Tryz.underlying114 Tryz.underlying5 Tryz.underlying9 hx (fun k b hb => ?_)
  rw [hr.cell, List.getElem?_toArray]
  show (A ++ (xs.map byteV ++ fls S))[6 + k]? = _
  rw [List.getElem?_append_right (by omega), hA, Nat.add_sub_cancel_left, List.getElem?_append_left (by simpa using (List.getElem?_eq_some_iff.1 hb).1), List.getElem?_map, hb]; rfl
theorem eWrite_any (hx : xs.length = 6) (hy : ys.length = 6) (hv : vl ≤ 4094) (ht : ty = 2048 ∨ ty = 34525) (hb : b.size ≤ 1500) : Gives Tryz.prog 36 #[.agg (fls (eS (xs.map byteV) (ys.map byteV) (decide (0 < vl)) 0 vl ty b)).toArray] w (.tuple #[.string (wE xs ys vl ty b), .int .i64 0]) := by
  refine Gives.of ?_
  have oM := okA_bytes hx
  have oN := okA_bytes hy
  have fg : ∀ w, Gives Tryz.prog 82 #[.agg (fls (eS (xs.map byteV) (ys.map byteV) (decide (0 < vl)) 0 vl ty b)).toArray] w (.bool true) := fun w => eGood_any oM oN hv ht hb
  have p1 : ∀ w, Gives Tryz.prog 83 #[.int .i64 33024] w (.string (str (putL 33024 2))) := fun w => eTwo (n := 33024) (by omega)
  have p2 : ∀ w, Gives Tryz.prog 83 #[.int .i64 (vl : Int)] w (.string (str (putL vl 2))) := fun w => eTwo (by omega)
  have p3 : ∀ w, Gives Tryz.prog 83 #[.int .i64 (ty : Int)] w (.string (str (putL ty 2))) := fun w => eTwo (by omega)
  have E : wE xs ys vl ty b = (if 0 < vl then str xs ++ str ys ++ (str (putL 33024 2) ++ str (putL vl 2)) else str xs ++ str ys) ++ str (putL ty 2) ++ b := by
    unfold wE wEL tgL
    apply data_inj
    split <;> simp [str]
  rw [E]
  clear E
  have hcv : ∀ (gw : Nat) (y : HW w.heap.size w [(gw, 47, true, eS (xs.map byteV) (ys.map byteV) (decide (0 < vl)) 0 vl ty b)]), (convert 114 9 (.slice (some ⟨gw, 0, none⟩) 6 6)).run Tryz.prog y.w = .ok (.string (str xs)) y.w ∧ (convert 114 9 (.slice (some ⟨gw, 6, none⟩) 6 6)).run Tryz.prog y.w = .ok (.string (str ys)) y.w := fun gw y =>
    ⟨mac_str hx (y.hp.rows.mem (i := 0) rfl).1, mac_str6 oM.1 hy (y.hp.rows.mem (i := 0) rfl).1⟩
  have hsl1 : ∀ W (g : Nat), (Instr.sliceAt 40 (.pointer (some ⟨g, 0, none⟩)) none none none).run Tryz.prog W = .ok (.slice (some ⟨g, 0, none⟩) 6 6) W := fun W g => by kernel_rfl
  have hsl2 : ∀ W (g : Nat), (Instr.sliceAt 40 (.pointer (some ⟨g, 6, none⟩)) none none none).run Tryz.prog W = .ok (.slice (some ⟨g, 6, none⟩) 6 6) W := fun W g => by kernel_rfl
  have z1 := str_size xs
  have z2 := str_size ys
  have z3 := str_size (putL 33024 2)
  have z4 := str_size (putL vl 2)
  have z5 := str_size (putL ty 2)
  rw [hx] at z1
  rw [hy] at z2
  rw [putL_length] at z3 z4 z5
  have ho : bits BinOp.or IntKind.i64 0 (vl : Int) = (vl : Int) := by
    have e := i64_or 0 vl (by omega) (by omega)
    rwa [Nat.zero_or] at e
  unfold eS at *
  clear hx hy ht
  generalize str (putL 33024 2) = x3 at *
  generalize str (putL vl 2) = x4 at *
  generalize str (putL ty 2) = x5 at *
  generalize str xs = x1 at *
  generalize str ys = x2 at *
  generalize xs.map byteV = M at *
  generalize ys.map byteV = N at *
  have hH := Hp.refl w
  by_cases h0 : 0 < vl
  · rw [decide_eq_true h0] at *
    rw [if_pos h0]
    clear h0
    go_enter Tryz.func36, Tryz.ntmps36
    go_wp2_with (refine st ?_; clear hH; first | intro W g hH | intro W hH)
    have hc1 := fun y => (hcv g y).1
    have hc2 := fun y => (hcv g y).2
    clear hcv
    (refine rq ?_; clear hH; intro W hH)
    go_wp2_with (refine st ?_; clear hH; first | intro W g hH | intro W hH)
    (refine rq ?_; clear hH; intro W hH)
    go_wp2_with (refine st ?_; clear hH; first | intro W g hH | intro W hH)
    (refine rq ?_; clear hH; intro W hH)
    go_wp2_with (refine st ?_; clear hH; first | intro W g hH | intro W hH)
    go_ret2
    exact ⟨rfl, hH.below⟩
  · rw [decide_eq_false h0] at *
    rw [if_neg h0]
    clear h0
    go_enter Tryz.func36, Tryz.ntmps36
    go_wp2_with (refine st ?_; clear hH; first | intro W g hH | intro W hH)
    have hc1 := fun y => (hcv g y).1
    have hc2 := fun y => (hcv g y).2
    clear hcv
    (refine rq ?_; clear hH; intro W hH)
    go_wp2_with (refine st ?_; clear hH; first | intro W g hH | intro W hH)
    (refine rq ?_; clear hH; intro W hH)
    go_wp2_with (refine st ?_; clear hH; first | intro W g hH | intro W hH)
    go_ret2
    exact ⟨rfl, hH.below⟩
theorem r4mac_any (hx : xs.length = 6) : Gives Tryz.prog 99 #[.agg (fls [.many (xs.map byteV) 6]).toArray] w (.string (str xs)) := by
  refine Gives.of ?_
  have oM := okA_bytes hx
  have hput : ∀ (b : UInt8) w, Gives Tryz.prog 100 #[.int .u64 (b.toNat : Int), .int .i64 1] w (.string (str [b])) := fun b w => by
    have hb := b.toNat_lt
    have h := rPut (n := b.toNat) (k := 1) (w := w) (by omega) (by omega)
    have e : putL b.toNat 1 = [b] := by
      have : byteAt b.toNat 0 = b := by apply UInt8.toNat.inj; rw [byteAt_toNat]; omega
      simp [putL, this]
    rwa [e] at h
  have hc := Lib.hid (fun k (hk : k < xs.length) => cellB (l := xs) (i := k) (List.getElem?_eq_getElem hk))
  have hts := Lib.hid (fun k (hk : k < xs.length) => show str (xs.take (k + 1)) = str (xs.take k) ++ str [xs[k]] by rw [str_append, List.take_add_one, List.getElem?_eq_getElem hk]; rfl)
  have hall := Lib.hid (show str xs = str (xs.take 6) by rw [List.take_of_length_le (by omega)])
  have hsz := Lib.hid (fun k (hk : k ≤ 6) => show (str (xs.take k)).size ≤ 6 by rw [str_size, List.length_take]; omega)
  rw [hall.out]
  generalize xs.map byteV = M at *
  have hH := Hp.refl w
  go_enter Tryz.func99, Tryz.ntmps99
  go_wp2_with (refine st ?_; clear hH; first | intro W g hH | intro W hH)
  obtain ⟨L, hL, hL2⟩ : ∃ L, L = [(g, 40, true, [Seg.many M 6])] ∧ Hp w.heap.size w W L := ⟨_, rfl, hH⟩
  go_loopw [3, 4] (fun s i wr => ∃ k : Nat, k ≤ 6 ∧ i = .int .i64 k ∧ s = .string (str (xs.take k)) ∧ Hp w.heap.size w wr L) (fun _ i _ => 6 - (intOf i).toNat)
  case atStart => exact ⟨0, by omega, rfl, rfl, hL2⟩
  case round =>
    clear hH hL2
    obtain ⟨k, hk, rfl, rfl, hH⟩ := hrel
    subst hL
    have hz := hsz.out k hk
    by_cases hlt : k < 6
    · have dj : decide ((k : Int) < 6) = true := decide_eq_true (by omega)
      have hcell := hc.out k (by omega)
      have ht := Lib.hid (hts.out k (by omega))
      have hu := hput (xs[k]'(by omega))
      have hb8 := (xs[k]'(by omega)).toNat_lt
      generalize xs[k]'(by omega) = u at *
      generalize str (xs.take k) = T at *
      have hzU : (str [u]).size = 1 := str_size [u]
      generalize str [u] = U at *
      go_wp2_with (refine st ?_; clear hH; first | intro W g hH | intro W hH)
      exact ⟨⟨k + 1, by omega, by go_num, by rw [ht.out], hH⟩, by simp [intOf]; omega⟩
    · have dj : decide ((k : Int) < 6) = false := decide_eq_false (by omega)
      have HT := Lib.hid (show str (xs.take k) = str (xs.take 6) by rw [show k = 6 by omega])
      generalize str (xs.take k) = T at *
      go_wp2_with (refine st ?_; clear hH; first | intro W g hH | intro W hH)
      go_ret
      exact ⟨by rw [← HT.out]; rfl, hH.below⟩
theorem r4Write_mac (hx : xs.length = 6) (hy : ys.length = 6) (hv : vl ≤ 4094) (ht : ty = 2048 ∨ ty = 34525) (hb : b.size ≤ 1500) : Gives Tryz.prog 46 #[.agg (fls (eS (xs.map byteV) (ys.map byteV) (decide (0 < vl)) 0 vl ty b)).toArray] w (.string (wE xs ys vl ty b)) := by
  refine Gives.of ?_
  have oM := okA_bytes hx
  have oN := okA_bytes hy
  have m1 : ∀ w, Gives Tryz.prog 99 #[.agg (fls [.many (xs.map byteV) 6]).toArray] w (.string (str xs)) := fun w => r4mac_any hx
  have m2 : ∀ w, Gives Tryz.prog 99 #[.agg (fls [.many (ys.map byteV) 6]).toArray] w (.string (str ys)) := fun w => r4mac_any hy
  have p2 : ∀ w, Gives Tryz.prog 100 #[.int .u64 (vl : Int), .int .i64 2] w (.string (str (putL vl 2))) := fun w => rPut (k := 2) (by omega) (by omega)
  have p3 : ∀ w, Gives Tryz.prog 100 #[.int .u64 (ty : Int), .int .i64 2] w (.string (str (putL ty 2))) := fun w => rPut (k := 2) (by omega) (by omega)
  have E : wE xs ys vl ty b = (if 0 < vl then str xs ++ str ys ++ ⟨#[129, 0]⟩ ++ str (putL vl 2) else str xs ++ str ys) ++ str (putL ty 2) ++ b := by
    rw [show (⟨#[129, 0]⟩ : ByteArray) = str (putL 33024 2) by kernel_rfl]
    unfold wE wEL tgL
    apply data_inj
    split <;> simp [str]
  rw [E]
  clear E
  have z1 := str_size xs
  have z2 := str_size ys
  have z4 := str_size (putL vl 2)
  have z5 := str_size (putL ty 2)
  rw [hx] at z1
  rw [hy] at z2
  rw [putL_length] at z4 z5
  have hty : ty < 65536 := by omega
  unfold eS at *
  clear hx hy ht
  generalize str (putL vl 2) = x4 at *
  generalize str (putL ty 2) = x5 at *
  generalize str xs = x1 at *
  generalize str ys = x2 at *
  generalize xs.map byteV = M at *
  generalize ys.map byteV = N at *
  have hH := Hp.refl w
  by_cases h0 : 0 < vl
  · rw [decide_eq_true h0] at *
    rw [if_pos h0]
    clear h0
    go_enter Tryz.func46, Tryz.ntmps46
    go_wp2_with (refine st ?_; clear hH; first | intro W g hH | intro W hH)
    (refine rq ?_; clear hH; intro W hH)
    go_wp2_with (refine st ?_; clear hH; first | intro W g hH | intro W hH)
    (refine rq ?_; clear hH; intro W hH)
    go_wp2_with (refine st ?_; clear hH; first | intro W g hH | intro W hH)
    go_ret
    exact ⟨rfl, hH.below⟩
  · rw [decide_eq_false h0] at *
    rw [if_neg h0]
    clear h0
    go_enter Tryz.func46, Tryz.ntmps46
    go_wp2_with (refine st ?_; clear hH; first | intro W g hH | intro W hH)
    (refine rq ?_; clear hH; intro W hH)
    go_wp2_with (refine st ?_; clear hH; first | intro W g hH | intro W hH)
    (refine rq ?_; clear hH; intro W hH)
    go_wp2_with (refine st ?_; clear hH; first | intro W g hH | intro W hH)
    go_ret
    exact ⟨rfl, hH.below⟩
end
end Go.Proofs.YtdnehjhijmeihaaGreat
