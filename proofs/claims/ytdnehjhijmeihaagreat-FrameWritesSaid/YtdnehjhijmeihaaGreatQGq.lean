/-
  Joined texts: Gq, Gr, Guz.
-/
import Derived.Test.YtdnehjhijmeihaaGreatQGiz
import Derived.Test.YtdnehjhijmeihaaGreatQSg
import Derived.Test.YtdnehjhijmeihaaGreatQSl
import Derived.Test.YtdnehjhijmeihaaGreatQGp
import Derived.Test.YtdnehjhijmeihaaGreatQMem
namespace Go.Proofs.YtdnehjhijmeihaaGreat
open Go.ChangeShapes Go.WideShapes Go.ChangeAt Go.RowKit
set_option linter.unusedVariables false
set_option linter.unusedSimpArgs false
set_option maxRecDepth 20000
attribute [local irreducible] wpList
section
variable {w : World} {s : ByteArray}
end
section
variable {w : World} {s : ByteArray}
end
end Go.Proofs.YtdnehjhijmeihaaGreat
namespace Go.Proofs.YtdnehjhijmeihaaGreat
section
open Go.ChangeShapes Go.WideShapes Go.ChangeAt Go.RowKit
set_option linter.unusedVariables false
set_option linter.unusedSimpArgs false
set_option maxRecDepth 20000
attribute [local irreducible] wpList

theorem srcB_snoc {L : List Ad} {j : Nat} (h : j < L.length) : srcB (L.take (j + 1)) = srcB (L.take j) ++ bytesA L[j].v L[j].b := by
  unfold srcB
  rw [← List.take_append_getElem h, List.flatMap_append]
  simp only [List.flatMap_cons, List.flatMap_nil, List.append_nil]
theorem recsB_snoc {L : List Rc} {j : Nat} (h : j < L.length) : recsB (L.take (j + 1)) = recsB (L.take j) ++ recB L[j] := by
  unfold recsB
  rw [← List.take_append_getElem h, List.flatMap_append]
  simp only [List.flatMap_cons, List.flatMap_nil, List.append_nil]
theorem bytesA_le (a : Ad) : (bytesA a.v a.b).length ≤ 16 := by
  rw [bytesA_take a.h, List.length_take]
  have := a.h
  split <;> omega
theorem srcB_le : ∀ L : List Ad, (srcB L).length ≤ L.length * 16
  | [] => by simp [srcB]
  | a :: L => by
    have := srcB_le L
    have := bytesA_le a
    simp only [srcB, List.flatMap_cons, List.length_append, List.length_cons] at *
    omega
section
variable {w : World} {p sp rp : Option Addr} {c sc rc : Nat} {L : List Ad}
theorem put08 {n k : Nat} (hn : n < 9223372036854775808) (hk : k ≤ 8) : Gives Tryz.prog 135 #[.int .i64 (n : Int), .int .i64 (k : Int)] w (.string (str (putL n k))) := by
  have h1 : ∀ w, Gives Tryz.prog 140 #[.int .u64 (n : Int), .int .i64 (k : Int)] w (.string (str (putL n k))) := fun w => by
    have h := Put_any (n := n) (wide := (k : Int)) (w := w) (by omega)
    rwa [show wn (k : Int) 8 = k by unfold wn within; split; omega; split <;> omega] at h
  have u1 : IntKind.u64.wrap (n : Int) = (n : Int) := u64_small (by omega)
  refine Gives.of ?_
  have hH := Hp.refl w
  generalize str (putL n k) = r at *
  go_enter Tryz.func135, Tryz.ntmps135
  go_wp2_with (refine st ?_; clear hH; first | intro W g hH | intro W hH)
  go_ret
  exact ⟨rfl, hH.below⟩
theorem rnum08 {n k : Nat} (hn : n < 9223372036854775808) (hk : k ≤ 8) : Gives Tryz.prog 95 #[.int .i64 (n : Int), .int .i64 (k : Int)] w (.string (str (putL n k))) := by
  have h1 : ∀ w, Gives Tryz.prog 100 #[.int .u64 (n : Int), .int .i64 (k : Int)] w (.string (str (putL n k))) := fun w => by
    have h := rput_any (n := n) (wide := (k : Int)) (w := w) (by omega)
    rwa [show wn (k : Int) 8 = k by unfold wn within; split; omega; split <;> omega] at h
  have u1 : IntKind.u64.wrap (n : Int) = (n : Int) := u64_small (by omega)
  refine Gives.of ?_
  have hH := Hp.refl w
  generalize str (putL n k) = r at *
  go_enter Tryz.func95, Tryz.ntmps95
  go_wp2_with (refine st ?_; clear hH; first | intro W g hH | intro W hH)
  go_ret
  exact ⟨rfl, hH.below⟩
theorem bytes08 (a : Ad) : Gives Tryz.prog 132 #[.agg (fls [.many (adL a) 17]).toArray] w (.string (str (bytesA a.v a.b))) := by
  unfold adL
  rw [addr_segs1]
  exact aBytes_any a.h
theorem rbytes08 (a : Ad) : Gives Tryz.prog 91 #[.agg (fls [.many (adL a) 17]).toArray] w (.string (str (bytesA a.v a.b))) := by
  unfold adL
  rw [addr_segs1]
  exact raBytes_any a.h
set_option maxHeartbeats 1000000 in
theorem ilist_any (hl : L.length ≤ 1000) (h : AdsAt w p L) : Gives Tryz.prog 183 #[.slice p L.length c] w (.tuple #[.string (str (putL L.length 2)), .string (str (srcB L))]) := by
  have HA := Lib.hid h
  clear h
  refine Gives.of ?_
  have hH := Hp.refl w
  have p1 : ∀ w, Gives Tryz.prog 135 #[.int .i64 (L.length : Int), .int .i64 2] w (.string (str (putL L.length 2))) := fun w => put08 (k := 2) (by omega) (by omega)
  have FB := Lib.hid (fun (a : Ad) (w : World) => bytes08 (w := w) a)
  generalize str (putL L.length 2) = s1 at *
  go_enter Tryz.func183, Tryz.ntmps183
  go_wp2_with (refine st ?_; clear hH; first | intro W g hH | intro W hH)
  go_loopw [4, 9] (fun s i wr => ∃ (j : Nat) (S : ByteArray), i = .int .i64 (j : Int) ∧ j ≤ L.length ∧ s = .string S ∧ Hid (S = str (srcB (L.take j))) ∧ S.size ≤ 16 * j ∧ Hp w.heap.size w wr []) (fun _ i _ => L.length - (intOf i).toNat)
  case atStart => exact ⟨0, ⟨#[]⟩, rfl, by omega, rfl, Lib.hid rfl, by simp [ByteArray.size], hH.nil⟩
  case round =>
    clear hH
    obtain ⟨j, S, rfl, hj, rfl, hS, hm, hH⟩ := hrel
    by_cases hjl : j < L.length
    · obtain ⟨q, hq, fO, _⟩ := HA.out.get hjl
      subst hq
      have dj : decide ((j : Int) < (L.length : Int)) = true := decide_eq_true (by omega)
      have oZ := adL_ok L[j]
      have fB := FB.out L[j]
      have m5 : (str (bytesA L[j].v L[j].b)).size ≤ 16 := by rw [str_size]; exact bytesA_le L[j]
      have hN := Lib.hid (show S ++ str (bytesA L[j].v L[j].b) = str (srcB (L.take (j + 1))) by rw [hS.out, srcB_snoc hjl, str_append])
      clear HA FB hS
      generalize adL L[j] = Z at *
      generalize str (bytesA L[j].v L[j].b) = T at *
      go_wp2_with (first | ((refine gL rfl ?_; refine hLoR tab_ok rfl ?_ rfl hH rfl rfl ?_; (focus first|exact wN rfl|exact rfl); refine ⟨_, fO, ⟨oZ, trivial⟩, rfl, ?_⟩; (clear hH; (first | intro W g hH | intro W hH); (try simp only [Act.put, pA, pB, pC])))) | (refine st ?_; clear hH; first | intro W g hH | intro W hH))
      exact ⟨⟨j + 1, S ++ T, by simp, by omega, rfl, hN, by rw [ByteArray.size_append]; omega, hH.nil⟩, by simp [intOf]; omega⟩
    · have hE := Lib.hid (show S = str (srcB L) by rw [hS.out, List.take_of_length_le (by omega)])
      have dj : decide ((j : Int) < (L.length : Int)) = false := decide_eq_false (by omega)
      clear hS HA FB
      go_wp2_with (refine st ?_; clear hH; first | intro W g hH | intro W hH)
      go_ret2
      exact ⟨by rw [← hE.out]; rfl, hH.below⟩
set_option maxHeartbeats 1000000 in
theorem rlist_any (hl : L.length ≤ 1000) (h : AdsAt w p L) : Gives Tryz.prog 96 #[.slice p L.length c] w (.string (str (srcB L))) := by
  have HA := Lib.hid h
  clear h
  refine Gives.of ?_
  have hH := Hp.refl w
  have FB := Lib.hid (fun (a : Ad) (w : World) => rbytes08 (w := w) a)
  go_enter Tryz.func96, Tryz.ntmps96
  go_wp2_with (refine st ?_; clear hH; first | intro W g hH | intro W hH)
  go_loopw [3, 4] (fun s i wr => ∃ (j : Nat) (S : ByteArray), i = .int .i64 (j : Int) ∧ j ≤ L.length ∧ s = .string S ∧ Hid (S = str (srcB (L.take j))) ∧ S.size ≤ 16 * j ∧ Hp w.heap.size w wr []) (fun _ i _ => L.length - (intOf i).toNat)
  case atStart => exact ⟨0, ⟨#[]⟩, rfl, by omega, rfl, Lib.hid rfl, by simp [ByteArray.size], hH.nil⟩
  case round =>
    clear hH
    obtain ⟨j, S, rfl, hj, rfl, hS, hm, hH⟩ := hrel
    by_cases hjl : j < L.length
    · obtain ⟨q, hq, fO, _⟩ := HA.out.get hjl
      subst hq
      have dj : decide ((j : Int) < (L.length : Int)) = true := decide_eq_true (by omega)
      have oZ := adL_ok L[j]
      have fB := FB.out L[j]
      have m5 : (str (bytesA L[j].v L[j].b)).size ≤ 16 := by rw [str_size]; exact bytesA_le L[j]
      have hN := Lib.hid (show S ++ str (bytesA L[j].v L[j].b) = str (srcB (L.take (j + 1))) by rw [hS.out, srcB_snoc hjl, str_append])
      clear HA FB hS
      generalize adL L[j] = Z at *
      generalize str (bytesA L[j].v L[j].b) = T at *
      go_wp2_with (first | ((refine gL rfl ?_; refine hLoR tab_ok rfl ?_ rfl hH rfl rfl ?_; (focus first|exact wN rfl|exact rfl); refine ⟨_, fO, ⟨oZ, trivial⟩, rfl, ?_⟩; (clear hH; (first | intro W g hH | intro W hH); (try simp only [Act.put, pA, pB, pC])))) | (refine st ?_; clear hH; first | intro W g hH | intro W hH))
      exact ⟨⟨j + 1, S ++ T, by simp, by omega, rfl, hN, by rw [ByteArray.size_append]; omega, hH.nil⟩, by simp [intOf]; omega⟩
    · have hE := Lib.hid (show S = str (srcB L) by rw [hS.out, List.take_of_length_le (by omega)])
      have dj : decide ((j : Int) < (L.length : Int)) = false := decide_eq_false (by omega)
      clear hS HA FB
      go_wp2_with (refine st ?_; clear hH; first | intro W g hH | intro W hH)
      go_ret
      exact ⟨by rw [← hE.out]; rfl, hH.below⟩
end
end
section
open Go.ChangeShapes Go.WideShapes Go.ChangeAt Go.RowKit
set_option linter.unusedVariables false
set_option linter.unusedSimpArgs false
set_option maxRecDepth 20000
attribute [local irreducible] wpList

theorem or8 (b : Nat) (h : b < 8) : bits .or .i64 (b : Int) 8 = ((b + 8 : Nat) : Int) := by
  have e := i64_or b 8 (by omega) (by omega)
  rw [show ((8 : Nat) : Int) = 8 from rfl] at e
  rw [e]
  congr 1
  have : ∀ v : Fin 8, v.val ||| 8 = v.val + 8 := by decide
  exact this ⟨b, h⟩
section
variable {w : World} {sp rp : Option Addr} {sc rc : Nat} {g : Ad} {q : Bool} {rob ev ver kind resp : Int} {n m : Nat}
theorem ibody_q {r : Nat} (hv : ver = 1 ∨ ver = 2) : Gives Tryz.prog 134 #[.agg (fls [.one (.bool false), .one (.int .i64 ver), .one (.int .i64 1), .one (.int .i64 (r : Int)), .many (adL g) 17, .one (.bool q), .one (.int .i64 rob), .one (.int .i64 ev), .one (.slice sp n sc), .one (.slice rp m rc)]).toArray] w (.tuple #[.int .i64 17, .int .i64 (r : Int), .string (str (bytesA g.v g.b))]) := by
  refine Gives.of ?_
  have hH := Hp.refl w
  have oG := adL_ok g
  have fb := fun w => bytes08 (w := w) g
  generalize str (bytesA g.v g.b) = b at *
  generalize adL g = G at *
  rcases hv with rfl | rfl
  all_goals
    go_enter Tryz.func134, Tryz.ntmps134
    go_wp2_with (refine st ?_; clear hH; first | intro W g hH | intro W hH)
    (refine rq ?_; clear hH; intro W hH)
    go_wp2_with (refine st ?_; clear hH; first | intro W g hH | intro W hH)
    go_ret3
    exact ⟨rfl, hH.below⟩
theorem ibody_l : Gives Tryz.prog 134 #[.agg (fls [.one (.bool false), .one (.int .i64 ver), .one (.int .i64 3), .one (.int .i64 resp), .many (adL g) 17, .one (.bool q), .one (.int .i64 rob), .one (.int .i64 ev), .one (.slice sp n sc), .one (.slice rp m rc)]).toArray] w (.tuple #[.int .i64 23, .int .i64 0, .string (str (bytesA g.v g.b))]) := by
  refine Gives.of ?_
  have hH := Hp.refl w
  have oG := adL_ok g
  have fb := fun w => bytes08 (w := w) g
  generalize str (bytesA g.v g.b) = b at *
  generalize adL g = G at *
  go_enter Tryz.func134, Tryz.ntmps134
  go_wp2_with (refine st ?_; clear hH; first | intro W g hH | intro W hH)
  go_ret3
  exact ⟨rfl, hH.below⟩
theorem ibody_r {k : Int} (hv : (ver = 1 ∧ k = 18) ∨ (ver = 2 ∧ k = 22)) : Gives Tryz.prog 134 #[.agg (fls [.one (.bool false), .one (.int .i64 ver), .one (.int .i64 2), .one (.int .i64 resp), .many (adL g) 17, .one (.bool q), .one (.int .i64 rob), .one (.int .i64 ev), .one (.slice sp n sc), .one (.slice rp m rc)]).toArray] w (.tuple #[.int .i64 k, .int .i64 0, .string (str (bytesA g.v g.b))]) := by
  refine Gives.of ?_
  have hH := Hp.refl w
  have oG := adL_ok g
  have fb := fun w => bytes08 (w := w) g
  generalize str (bytesA g.v g.b) = b at *
  generalize adL g = G at *
  rcases hv with ⟨rfl, rfl⟩ | ⟨rfl, rfl⟩
  all_goals
    go_enter Tryz.func134, Tryz.ntmps134
    go_wp2_with (refine st ?_; clear hH; first | intro W g hH | intro W hH)
    go_ret3
    exact ⟨rfl, hH.below⟩
set_option maxHeartbeats 1000000 in
theorem ibody_q3 {b r e : Nat} {src : List Ad} (hb : b < 8) (hl : src.length ≤ 1000) (h : AdsAt w sp src) : Gives Tryz.prog 134 #[.agg (fls [.one (.bool false), .one (.int .i64 3), .one (.int .i64 1), .one (.int .i64 (r : Int)), .many (adL g) 17, .one (.bool q), .one (.int .i64 (b : Int)), .one (.int .i64 (e : Int)), .one (.slice sp src.length sc), .one (.slice rp m rc)]).toArray] w (.tuple #[.int .i64 17, .int .i64 (cod8 (r : Int) : Int), .string (str (bytesA g.v g.b ++ (putL (b + (if q then 8 else 0)) 1 ++ (putL (cod8 (e : Int)) 1 ++ (putL src.length 2 ++ srcB src)))))]) := by
  refine Gives.of ?_
  have hH := Hp.refl w
  have oG := adL_ok g
  have HLS := Lib.hid (fun W (hb : Below w.heap.size w W) => ilist_any (c := sc) hl (h.below hb))
  have c1 := cod8_le (r : Int)
  have c2 := cod8_le (e : Int)
  have f1 : ∀ w, Gives Tryz.prog 173 #[.int .i64 (r : Int)] w (.int .i64 (cod8 (r : Int) : Int)) := fun w => Code8_any (cod8_is (r : Int))
  have f2 : ∀ w, Gives Tryz.prog 173 #[.int .i64 (e : Int)] w (.int .i64 (cod8 (e : Int) : Int)) := fun w => Code8_any (cod8_is (e : Int))
  have p1 : ∀ w, Gives Tryz.prog 135 #[.int .i64 (cod8 (e : Int) : Int), .int .i64 1] w (.string (str (putL (cod8 (e : Int)) 1))) := fun w => put08 (k := 1) (by omega) (by omega)
  have p2 : ∀ w, Gives Tryz.prog 135 #[.int .i64 ((b + (if q then 8 else 0) : Nat) : Int), .int .i64 1] w (.string (str (putL (b + (if q then 8 else 0)) 1))) := fun w => put08 (k := 1) (by split <;> omega) (by omega)
  have fb := fun w => bytes08 (w := w) g
  have o8 := or8 b hb
  have HE := Lib.hid (show str (bytesA g.v g.b) ++ str (putL (b + (if q then 8 else 0)) 1) ++ str (putL (cod8 (e : Int)) 1) ++ str (putL src.length 2) ++ str (srcB src) = str (bytesA g.v g.b ++ (putL (b + (if q then 8 else 0)) 1 ++ (putL (cod8 (e : Int)) 1 ++ (putL src.length 2 ++ srcB src)))) by simp only [str_append, List.append_assoc])
  have m1 := str_size (putL (b + (if q then 8 else 0)) 1)
  have m2 := str_size (putL (cod8 (e : Int)) 1)
  have m3 := str_size (putL src.length 2)
  have m4 : (str (bytesA g.v g.b)).size ≤ 16 := by rw [str_size]; exact bytesA_le g
  have m5 : (str (srcB src)).size ≤ 16000 := by rw [str_size]; have := srcB_le src; omega
  rw [putL_length] at m1 m2 m3
  clear h
  rw [← HE.out]
  clear HE
  generalize str (bytesA g.v g.b) = s1 at *
  generalize str (putL (b + (if q then 8 else 0)) 1) = s2 at *
  generalize str (putL (cod8 (e : Int)) 1) = s3 at *
  generalize str (putL src.length 2) = s4 at *
  generalize str (srcB src) = s5 at *
  generalize adL g = G at *
  generalize cod8 (r : Int) = cr at *
  generalize cod8 (e : Int) = ce at *
  cases q
  · simp only [Bool.false_eq_true, if_false, Nat.add_zero] at p2
    go_enter Tryz.func134, Tryz.ntmps134
    go_wp2_with (first | (refine st ?_; clear hH; first | intro W g hH | intro W hH) | ((with_reducible refine callH hH ?_); refine ⟨?_, ?_, ?_⟩; rotate_left; (focus (first | (exact HLS.out _ hH.below))); (clear hH; first | intro W g hH | intro W hH); ((try simp only [Act.put, pA, pB, pC]))))
    (refine rq ?_; clear hH; intro W hH)
    go_wp2_with (refine st ?_; clear hH; first | intro W g hH | intro W hH)
    go_ret3
    exact ⟨rfl, hH.below⟩
  · simp only [if_true] at p2
    have p3 : ∀ w, Gives Tryz.prog 135 #[.int .i64 ((b : Int) + 8), .int .i64 1] w (.string s2) := fun w => by rw [show ((b : Int) + 8) = ((b + 8 : Nat) : Int) by omega]; exact p2 w
    go_enter Tryz.func134, Tryz.ntmps134
    go_wp2_with (first | (refine st ?_; clear hH; first | intro W g hH | intro W hH) | ((with_reducible refine callH hH ?_); refine ⟨?_, ?_, ?_⟩; rotate_left; (focus (first | (exact HLS.out _ hH.below))); (clear hH; first | intro W g hH | intro W hH); ((try simp only [Act.put, pA, pB, pC]))))
    (refine rq ?_; clear hH; intro W hH)
    go_wp2_with (refine st ?_; clear hH; first | intro W g hH | intro W hH)
    go_ret3
    exact ⟨rfl, hH.below⟩
set_option maxHeartbeats 2000000 in
theorem ibody_r3 {R : List Rc} (hR : R.all rcOk4 = true) (hl : R.length < 65) (h : RcsAt w rp R) : Gives Tryz.prog 134 #[.agg (fls [.one (.bool false), .one (.int .i64 3), .one (.int .i64 2), .one (.int .i64 resp), .many (adL g) 17, .one (.bool q), .one (.int .i64 rob), .one (.int .i64 ev), .one (.slice sp n sc), .one (.slice rp R.length rc)]).toArray] w (.tuple #[.int .i64 34, .int .i64 0, .string (str (putL 0 2 ++ (putL R.length 2 ++ recsB R)))]) := by
  refine Gives.of ?_
  have hH := Hp.refl w
  have oG := adL_ok g
  have HA := Lib.hid h
  have HR := Lib.hid hR
  clear h hR
  have fb := fun w => bytes08 (w := w) g
  have p1 : ∀ w, Gives Tryz.prog 135 #[.int .i64 0, .int .i64 2] w (.string (str (putL 0 2))) := fun w => put08 (n := 0) (k := 2) (by omega) (by omega)
  have p2 : ∀ w, Gives Tryz.prog 135 #[.int .i64 (R.length : Int), .int .i64 2] w (.string (str (putL R.length 2))) := fun w => put08 (k := 2) (by omega) (by omega)
  have p3 : ∀ w, Gives Tryz.prog 135 #[.int .i64 0, .int .i64 1] w (.string (str (putL 0 1))) := fun w => put08 (n := 0) (k := 1) (by omega) (by omega)
  have m1 := str_size (putL 0 2)
  have m2 := str_size (putL R.length 2)
  have m3 := str_size (putL 0 1)
  rw [putL_length] at m1 m2 m3
  have HS := Lib.hid (show ∀ X, str (putL 0 2 ++ (putL R.length 2 ++ X)) = str (putL 0 2) ++ str (putL R.length 2) ++ str X from fun X => by simp only [str_append, List.append_assoc])
  have HZ := Lib.hid (show ∀ (S0 : ByteArray) (X : List UInt8) (r : Rc), S0 ++ str X ++ (str (putL r.kind.toNat 1) ++ str (putL 0 1) ++ str (putL r.src.length 2) ++ str (bytesA r.grp.v r.grp.b) ++ str (srcB r.src)) = S0 ++ str (X ++ recB r) from fun S0 X r => by unfold recB; simp only [str_append, List.append_assoc, ByteArray.append_assoc])
  rw [HS.out]
  generalize str (bytesA g.v g.b) = bb at *
  generalize str (putL 0 2) = s1 at *
  generalize str (putL R.length 2) = s2 at *
  generalize str (putL 0 1) = s3 at *
  generalize adL g = G at *
  go_enter Tryz.func134, Tryz.ntmps134
  go_wp2_with (refine st ?_; clear hH; first | intro W g hH | intro W hH)
  (refine rq ?_; clear hH; intro W hH)
  go_wp2_with (refine st ?_; clear hH; first | intro W g hH | intro W hH)
  clear p1 p2 fb HS
  go_loopw [6, 55] (fun s i wr => ∃ (j : Nat) (S : ByteArray), i = .int .i64 (j : Int) ∧ j ≤ R.length ∧ s = .string S ∧ Hid (S = s1 ++ s2 ++ str (recsB (R.take j))) ∧ S.size ≤ 4 + 1100 * j ∧ Hp w.heap.size w wr []) (fun _ i _ => R.length - (intOf i).toNat)
  case atStart => exact ⟨0, s1 ++ s2, rfl, by omega, rfl, Lib.hid (data_inj (by simp [recsB, str])), by rw [ByteArray.size_append]; omega, hH.nil⟩
  case round =>
    clear hH
    obtain ⟨j, S, rfl, hj, rfl, hS, hm, hH⟩ := hrel
    by_cases hjl : j < R.length
    · obtain ⟨q0, s0, c0, hq, _, _, _, fA, fR⟩ := HA.out.get hjl
      subst hq
      have dj : decide ((j : Int) < (R.length : Int)) = true := decide_eq_true (by omega)
      obtain ⟨k1, k2, k3, k4⟩ := rcOk4_all (List.all_eq_true.1 HR.out _ (List.getElem_mem hjl))
      obtain ⟨_, hsl⟩ := srcs4_all k4
      have hN := Lib.hid (show S ++ (str (putL R[j].kind.toNat 1) ++ s3 ++ str (putL R[j].src.length 2) ++ str (bytesA R[j].grp.v R[j].grp.b) ++ str (srcB R[j].src)) = s1 ++ s2 ++ str (recsB (R.take (j + 1))) by rw [hS.out, HZ.out, recsB_snoc hjl])
      clear HZ hS HR HA k3 k4
      generalize R[j] = r at *
      obtain ⟨kd, gr, src⟩ := r
      simp only at k1 k2 hsl fA fR hN
      obtain ⟨kn, rfl⟩ : ∃ k : Nat, kd = (k : Int) := ⟨kd.toNat, by omega⟩
      rw [Int.toNat_natCast] at hN
      have oY := adL_ok gr
      have p4 : ∀ w, Gives Tryz.prog 135 #[.int .i64 (kn : Int), .int .i64 1] w (.string (str (putL kn 1))) := fun w => put08 (k := 1) (by omega) (by omega)
      have fb := fun w => bytes08 (w := w) gr
      have HLS := Lib.hid (fun W (hb : Below w.heap.size w W) => ilist_any (c := c0) (show src.length ≤ 1000 by omega) (fA.below hb))
      have m4 := str_size (putL kn 1)
      have m5 := str_size (putL src.length 2)
      have m6 : (str (bytesA gr.v gr.b)).size ≤ 16 := by rw [str_size]; exact bytesA_le gr
      have m7 : (str (srcB src)).size ≤ 1024 := by rw [str_size]; have := srcB_le src; omega
      rw [putL_length] at m4 m5
      generalize str (bytesA gr.v gr.b) = t1 at *
      generalize str (putL kn 1) = t2 at *
      generalize str (putL src.length 2) = t3 at *
      generalize str (srcB src) = t4 at *
      generalize adL gr = Y at *
      go_wp2_with (first | ((refine gL rfl ?_; refine hLoR tab_ok rfl ?_ rfl hH rfl rfl ?_; (focus first|exact wN rfl|exact rfl); refine ⟨_, fR, ⟨rfl, oY, rfl, trivial⟩, rfl, ?_⟩; (clear hH; (first | intro W g hH | intro W hH); (try simp only [Act.put, pA, pB, pC])))) | (refine st ?_; clear hH; first | intro W g hH | intro W hH) | ((with_reducible refine callH hH ?_); refine ⟨?_, ?_, ?_⟩; rotate_left; (focus (first | (exact HLS.out _ hH.below))); (clear hH; first | intro W g hH | intro W hH); ((try simp only [Act.put, pA, pB, pC]))))
      (refine rq ?_; clear hH; intro W hH)
      go_wp2_with (refine st ?_; clear hH; first | intro W g hH | intro W hH)
      exact ⟨⟨j + 1, S ++ (t2 ++ s3 ++ t3 ++ t1 ++ t4), by simp, by omega, rfl, hN, by simp only [ByteArray.size_append]; omega, hH.nil⟩, by simp [intOf]; omega⟩
    · have hE := Lib.hid (show S = s1 ++ s2 ++ str (recsB R) by rw [hS.out, List.take_of_length_le (by omega)])
      have dj : decide ((j : Int) < (R.length : Int)) = false := decide_eq_false (by omega)
      clear hS HA HR HZ
      go_wp2_with (refine st ?_; clear hH; first | intro W g hH | intro W hH)
      go_ret3
      exact ⟨by rw [← hE.out]; rfl, hH.below⟩
theorem ibody_any {T : Tk} (hg : good4 T = true) (hA : AdsAt w sp T.src) (hR : RcsAt w rp T.recs) : Gives Tryz.prog 134 #[.agg (fls (tkS T sp sc rp rc)).toArray] w (.tuple #[.int .i64 (kindN T : Int), .int .i64 (secN T : Int), .string (str (restL T))]) := by
  rcases good4_cases hg with rfl | ⟨r, g, rfl, r1, r2, hg⟩ | ⟨g, k, v, rfl, hg, hkv⟩ | ⟨R, rfl, hRR, hl⟩ | ⟨resp, g, q, rob, ev, src, rfl, h1, h2, h3, h4, h5, hg, h6⟩
  · have := ibody_q (w := w) (sp := sp) (sc := sc) (rp := rp) (rc := rc) (g := Ad.z) (q := false) (rob := 0) (ev := 0) (ver := 1) (n := 0) (m := 0) (r := 0) (.inl rfl)
    simpa [kindN, secN, restL, tkS] using this
  · have := ibody_q (w := w) (sp := sp) (sc := sc) (rp := rp) (rc := rc) (g := g) (q := false) (rob := 0) (ev := 0) (ver := 2) (n := 0) (m := 0) (r := r.toNat) (.inr rfl)
    rw [Int.toNat_of_nonneg (by omega)] at this
    have e : ((secN ⟨false, 2, 1, r, g, false, 0, 0, [], []⟩ : Nat) : Int) = r := by simp [secN]; omega
    rw [e]
    simpa [kindN, restL, tkS] using this
  · rcases hkv with ⟨rfl, rfl⟩ | ⟨rfl, rfl⟩ | ⟨rfl, rfl⟩
    · have := ibody_r (w := w) (sp := sp) (sc := sc) (rp := rp) (rc := rc) (g := g) (q := false) (rob := 0) (ev := 0) (ver := 1) (resp := 0) (n := 0) (m := 0) (k := 18) (.inl ⟨rfl, rfl⟩)
      simpa [kindN, secN, restL, tkS] using this
    · have := ibody_r (w := w) (sp := sp) (sc := sc) (rp := rp) (rc := rc) (g := g) (q := false) (rob := 0) (ev := 0) (ver := 2) (resp := 0) (n := 0) (m := 0) (k := 22) (.inr ⟨rfl, rfl⟩)
      simpa [kindN, secN, restL, tkS] using this
    · have := ibody_l (w := w) (sp := sp) (sc := sc) (rp := rp) (rc := rc) (g := g) (q := false) (rob := 0) (ev := 0) (ver := 2) (resp := 0) (n := 0) (m := 0)
      simpa [kindN, secN, restL, tkS] using this
  · have := ibody_r3 (w := w) (sp := sp) (sc := sc) (rp := rp) (rc := rc) (g := Ad.z) (q := false) (rob := 0) (ev := 0) (resp := 0) (n := 0) hRR hl hR
    simpa [kindN, secN, restL, tkS] using this
  · obtain ⟨b, rfl⟩ : ∃ b : Nat, rob = (b : Int) := ⟨rob.toNat, by omega⟩
    obtain ⟨rn, rfl⟩ : ∃ b : Nat, resp = (b : Int) := ⟨resp.toNat, by unfold ex8 at h1; simp at h1; omega⟩
    obtain ⟨en, rfl⟩ : ∃ b : Nat, ev = (b : Int) := ⟨ev.toNat, by unfold ex8 at h2; simp at h2; omega⟩
    obtain ⟨_, hl⟩ := srcs4_all h5
    have := ibody_q3 (w := w) (sp := sp) (sc := sc) (rp := rp) (rc := rc) (g := g) (q := q) (b := b) (r := rn) (e := en) (m := 0) (src := src) (by omega) (by omega) hA
    simpa [kindN, secN, restL, flagN, tkS] using this
end
end
end Go.Proofs.YtdnehjhijmeihaaGreat
