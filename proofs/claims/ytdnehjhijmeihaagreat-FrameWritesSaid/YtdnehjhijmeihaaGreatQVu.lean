/-
  Joined texts: Vu, Vw.
-/
import Derived.Test.YtdnehjhijmeihaaGreatQVi
import Derived.Test.YtdnehjhijmeihaaGreatQSl
import Derived.Test.YtdnehjhijmeihaaGreatQVp
namespace Go.Proofs.YtdnehjhijmeihaaGreat.V
open Go.ChangeShapes Go.WideShapes Go.ChangeAt Go.RowKit
set_option linter.unusedVariables false
set_option linter.unusedSimpArgs false
set_option maxRecDepth 20000
attribute [local irreducible] wpList
theorem srcB_snoc {L : List Ad} {j : Nat} (h : j < L.length) : srcB (L.take (j + 1)) = srcB (L.take j) ++ bytesA L[j].v L[j].b := by
  unfold srcB
  rw [← List.take_append_getElem h, List.flatMap_append]
  simp only [List.flatMap_cons, List.flatMap_nil, List.append_nil]
theorem recsB_snoc {L : List Rc} {j : Nat} (h : j < L.length) : recsB (L.take (j + 1)) = recsB (L.take j) ++ recB L[j] := by
  unfold recsB
  rw [← List.take_append_getElem h, List.flatMap_append]
  simp only [List.flatMap_cons, List.flatMap_nil, List.append_nil]
theorem bytesA_le (a : Ad) : (bytesA a.v a.b).length ≤ 16 := by
  rw [bytesA_take a.h, List.length_take]
  have := a.h
  split <;> omega
theorem srcB_le : ∀ L : List Ad, (srcB L).length ≤ L.length * 16
  | [] => by simp [srcB]
  | a :: L => by
    have := srcB_le L
    have := bytesA_le a
    simp only [srcB, List.flatMap_cons, List.length_append, List.length_cons] at *
    omega
section
variable {w : World} {p sp rp : Option Addr} {c sc rc : Nat} {L : List Ad}
theorem vput {n k : Nat} (hn : n < 9223372036854775808) (hk : k ≤ 8) : Gives Tryz.prog 127 #[.int .i64 (n : Int), .int .i64 (k : Int)] w (.string (str (putL n k))) := by
  have h1 : ∀ w, Gives Tryz.prog 140 #[.int .u64 (n : Int), .int .i64 (k : Int)] w (.string (str (putL n k))) := fun w => by
    have h := Put_any (n := n) (wide := (k : Int)) (w := w) (by omega)
    rwa [show wn (k : Int) 8 = k by unfold wn within; split; omega; split <;> omega] at h
  have u1 : IntKind.u64.wrap (n : Int) = (n : Int) := u64_small (by omega)
  refine Gives.of ?_
  have hH := Hp.refl w
  generalize str (putL n k) = r at *
  go_enter Tryz.func127, Tryz.ntmps127
  go_wp2_with (refine st ?_; clear hH; first | intro W g hH | intro W hH)
  go_ret
  exact ⟨rfl, hH.below⟩
theorem rnum9 {n k : Nat} (hn : n < 9223372036854775808) (hk : k ≤ 8) : Gives Tryz.prog 90 #[.int .i64 (n : Int), .int .i64 (k : Int)] w (.string (str (putL n k))) := by
  have h1 : ∀ w, Gives Tryz.prog 100 #[.int .u64 (n : Int), .int .i64 (k : Int)] w (.string (str (putL n k))) := fun w => by
    have h := rput_any (n := n) (wide := (k : Int)) (w := w) (by omega)
    rwa [show wn (k : Int) 8 = k by unfold wn within; split; omega; split <;> omega] at h
  have u1 : IntKind.u64.wrap (n : Int) = (n : Int) := u64_small (by omega)
  refine Gives.of ?_
  have hH := Hp.refl w
  generalize str (putL n k) = r at *
  go_enter Tryz.func90, Tryz.ntmps90
  go_wp2_with (refine st ?_; clear hH; first | intro W g hH | intro W hH)
  go_ret
  exact ⟨rfl, hH.below⟩
theorem vbytes (a : Ad) : Gives Tryz.prog 132 #[.agg (fls [.many (adL a) 17]).toArray] w (.string (str (bytesA a.v a.b))) := by
  unfold adL
  rw [addr_segs1]
  exact aBytes_any a.h
theorem rbytes9 (a : Ad) : Gives Tryz.prog 91 #[.agg (fls [.many (adL a) 17]).toArray] w (.string (str (bytesA a.v a.b))) := by
  unfold adL
  rw [addr_segs1]
  exact raBytes_any a.h
set_option maxHeartbeats 1000000 in
theorem vlist_any (hl : L.length ≤ 1000) (h : AdsAt w p L) : Gives Tryz.prog 171 #[.slice p L.length c] w (.tuple #[.string (str (putL L.length 2)), .string (str (srcB L))]) := by
  have HA := Lib.hid h
  clear h
  refine Gives.of ?_
  have hH := Hp.refl w
  have p1 : ∀ w, Gives Tryz.prog 127 #[.int .i64 (L.length : Int), .int .i64 2] w (.string (str (putL L.length 2))) := fun w => vput (k := 2) (by omega) (by omega)
  have FB := Lib.hid (fun (a : Ad) (w : World) => vbytes (w := w) a)
  generalize str (putL L.length 2) = s1 at *
  go_enter Tryz.func171, Tryz.ntmps171
  go_wp2_with (refine st ?_; clear hH; first | intro W g hH | intro W hH)
  go_loopw [4, 9] (fun s i wr => ∃ (j : Nat) (S : ByteArray), i = .int .i64 (j : Int) ∧ j ≤ L.length ∧ s = .string S ∧ Hid (S = str (srcB (L.take j))) ∧ S.size ≤ 16 * j ∧ Hp w.heap.size w wr []) (fun _ i _ => L.length - (intOf i).toNat)
  case atStart => exact ⟨0, ⟨#[]⟩, rfl, by omega, rfl, Lib.hid rfl, by simp [ByteArray.size], hH.nil⟩
  case round =>
    clear hH
    obtain ⟨j, S, rfl, hj, rfl, hS, hm, hH⟩ := hrel
    by_cases hjl : j < L.length
    · obtain ⟨q, hq, fO, _⟩ := HA.out.get hjl
      subst hq
      have dj : decide ((j : Int) < (L.length : Int)) = true := decide_eq_true (by omega)
      have oZ := adL_ok L[j]
      have fB := FB.out L[j]
      have m5 : (str (bytesA L[j].v L[j].b)).size ≤ 16 := by rw [str_size]; exact bytesA_le L[j]
      have hN := Lib.hid (show S ++ str (bytesA L[j].v L[j].b) = str (srcB (L.take (j + 1))) by rw [hS.out, srcB_snoc hjl, str_append])
      clear HA FB hS
      generalize adL L[j] = Z at *
      generalize str (bytesA L[j].v L[j].b) = T at *
      go_wp2_with (first | ((refine gL rfl ?_; refine hLoR tab_ok rfl ?_ rfl hH rfl rfl ?_; (focus first|exact wN rfl|exact rfl); refine ⟨_, fO, ⟨oZ, trivial⟩, rfl, ?_⟩; (clear hH; (first | intro W g hH | intro W hH); (try simp only [Act.put, pA, pB, pC])))) | (refine st ?_; clear hH; first | intro W g hH | intro W hH))
      exact ⟨⟨j + 1, S ++ T, by simp, by omega, rfl, hN, by rw [ByteArray.size_append]; omega, hH.nil⟩, by simp [intOf]; omega⟩
    · have hE := Lib.hid (show S = str (srcB L) by rw [hS.out, List.take_of_length_le (by omega)])
      have dj : decide ((j : Int) < (L.length : Int)) = false := decide_eq_false (by omega)
      clear hS HA FB
      go_wp2_with (refine st ?_; clear hH; first | intro W g hH | intro W hH)
      go_ret2
      exact ⟨by rw [← hE.out]; rfl, hH.below⟩
set_option maxHeartbeats 1000000 in
theorem rlist_any (hl : L.length ≤ 1000) (h : AdsAt w p L) : Gives Tryz.prog 92 #[.slice p L.length c] w (.string (str (srcB L))) := by
  have HA := Lib.hid h
  clear h
  refine Gives.of ?_
  have hH := Hp.refl w
  have FB := Lib.hid (fun (a : Ad) (w : World) => rbytes9 (w := w) a)
  go_enter Tryz.func92, Tryz.ntmps92
  go_wp2_with (refine st ?_; clear hH; first | intro W g hH | intro W hH)
  go_loopw [3, 4] (fun s i wr => ∃ (j : Nat) (S : ByteArray), i = .int .i64 (j : Int) ∧ j ≤ L.length ∧ s = .string S ∧ Hid (S = str (srcB (L.take j))) ∧ S.size ≤ 16 * j ∧ Hp w.heap.size w wr []) (fun _ i _ => L.length - (intOf i).toNat)
  case atStart => exact ⟨0, ⟨#[]⟩, rfl, by omega, rfl, Lib.hid rfl, by simp [ByteArray.size], hH.nil⟩
  case round =>
    clear hH
    obtain ⟨j, S, rfl, hj, rfl, hS, hm, hH⟩ := hrel
    by_cases hjl : j < L.length
    · obtain ⟨q, hq, fO, _⟩ := HA.out.get hjl
      subst hq
      have dj : decide ((j : Int) < (L.length : Int)) = true := decide_eq_true (by omega)
      have oZ := adL_ok L[j]
      have fB := FB.out L[j]
      have m5 : (str (bytesA L[j].v L[j].b)).size ≤ 16 := by rw [str_size]; exact bytesA_le L[j]
      have hN := Lib.hid (show S ++ str (bytesA L[j].v L[j].b) = str (srcB (L.take (j + 1))) by rw [hS.out, srcB_snoc hjl, str_append])
      clear HA FB hS
      generalize adL L[j] = Z at *
      generalize str (bytesA L[j].v L[j].b) = T at *
      go_wp2_with (first | ((refine gL rfl ?_; refine hLoR tab_ok rfl ?_ rfl hH rfl rfl ?_; (focus first|exact wN rfl|exact rfl); refine ⟨_, fO, ⟨oZ, trivial⟩, rfl, ?_⟩; (clear hH; (first | intro W g hH | intro W hH); (try simp only [Act.put, pA, pB, pC])))) | (refine st ?_; clear hH; first | intro W g hH | intro W hH))
      exact ⟨⟨j + 1, S ++ T, by simp, by omega, rfl, hN, by rw [ByteArray.size_append]; omega, hH.nil⟩, by simp [intOf]; omega⟩
    · have hE := Lib.hid (show S = str (srcB L) by rw [hS.out, List.take_of_length_le (by omega)])
      have dj : decide ((j : Int) < (L.length : Int)) = false := decide_eq_false (by omega)
      clear hS HA FB
      go_wp2_with (refine st ?_; clear hH; first | intro W g hH | intro W hH)
      go_ret
      exact ⟨by rw [← hE.out]; rfl, hH.below⟩
end
theorem or8 (b : Nat) (h : b < 8) : bits .or .i64 (b : Int) 8 = ((b + 8 : Nat) : Int) := by
  have e := i64_or b 8 (by omega) (by omega)
  rw [show ((8 : Nat) : Int) = 8 from rfl] at e
  rw [e]
  congr 1
  have : ∀ v : Fin 8, v.val ||| 8 = v.val + 8 := by decide
  exact this ⟨b, h⟩
theorem put04 : putL 0 4 = putL 0 2 ++ putL 0 2 := by decide
section
variable {w : World} {sp rp : Option Addr} {sc rc : Nat} {g : Ad} {q : Bool} {rob ev ver kind resp : Int} {n m : Nat}
theorem vbody_q {r : Nat} (hr : r < 9223372036854775808) : Gives Tryz.prog 126 #[.agg (fls [.one (.bool true), .one (.int .i64 1), .one (.int .i64 1), .one (.int .i64 (r : Int)), .many (adL g) 17, .one (.bool q), .one (.int .i64 rob), .one (.int .i64 ev), .one (.slice sp n sc), .one (.slice rp m rc)]).toArray] w (.tuple #[.int .i64 130, .string (str (putL r 2 ++ (putL 0 2 ++ bytesA g.v g.b)))]) := by
  refine Gives.of ?_
  have hH := Hp.refl w
  have oG := adL_ok g
  have fb := fun w => vbytes (w := w) g
  have p1 : ∀ w, Gives Tryz.prog 127 #[.int .i64 (r : Int), .int .i64 2] w (.string (str (putL r 2))) := fun w => vput (n := r) (k := 2) (by omega) (by omega)
  have p2 : ∀ w, Gives Tryz.prog 127 #[.int .i64 0, .int .i64 2] w (.string (str (putL 0 2))) := fun w => vput (n := 0) (k := 2) (by omega) (by omega)
  have HE := Lib.hid (show str (putL r 2) ++ str (putL 0 2) ++ str (bytesA g.v g.b) = str (putL r 2 ++ (putL 0 2 ++ bytesA g.v g.b)) by simp only [str_append, List.append_assoc])
  have m1 := str_size (putL r 2)
  have m2 := str_size (putL 0 2)
  have m4 : (str (bytesA g.v g.b)).size ≤ 16 := by rw [str_size]; exact bytesA_le g
  rw [putL_length] at m1 m2
  rw [← HE.out]
  clear HE hr
  generalize str (bytesA g.v g.b) = b at *
  generalize str (putL r 2) = s1 at *
  generalize str (putL 0 2) = s2 at *
  generalize adL g = G at *
  go_enter Tryz.func126, Tryz.ntmps126
  go_wp2_with (refine st ?_; clear hH; first | intro W g hH | intro W hH)
  (refine rq ?_; clear hH; intro W hH)
  go_wp2_with (refine st ?_; clear hH; first | intro W g hH | intro W hH)
  go_ret2
  exact ⟨rfl, hH.below⟩
theorem vbody_k {k : Int} (hk : (kind = 2 ∧ k = 131) ∨ (kind = 3 ∧ k = 132)) : Gives Tryz.prog 126 #[.agg (fls [.one (.bool true), .one (.int .i64 1), .one (.int .i64 kind), .one (.int .i64 resp), .many (adL g) 17, .one (.bool q), .one (.int .i64 rob), .one (.int .i64 ev), .one (.slice sp n sc), .one (.slice rp m rc)]).toArray] w (.tuple #[.int .i64 k, .string (str (putL 0 2 ++ (putL 0 2 ++ bytesA g.v g.b)))]) := by
  refine Gives.of ?_
  have hH := Hp.refl w
  have oG := adL_ok g
  have fb := fun w => vbytes (w := w) g
  have p1 : ∀ w, Gives Tryz.prog 127 #[.int .i64 0, .int .i64 4] w (.string (str (putL 0 4))) := fun w => vput (n := 0) (k := 4) (by omega) (by omega)
  have HE := Lib.hid (show str (putL 0 4) ++ str (bytesA g.v g.b) = str (putL 0 2 ++ (putL 0 2 ++ bytesA g.v g.b)) by rw [put04]; simp only [str_append, List.append_assoc])
  have m1 := str_size (putL 0 4)
  have m4 : (str (bytesA g.v g.b)).size ≤ 16 := by rw [str_size]; exact bytesA_le g
  rw [putL_length] at m1
  rw [← HE.out]
  clear HE
  generalize str (bytesA g.v g.b) = b at *
  generalize str (putL 0 4) = s1 at *
  generalize adL g = G at *
  rcases hk with ⟨rfl, rfl⟩ | ⟨rfl, rfl⟩
  all_goals
    go_enter Tryz.func126, Tryz.ntmps126
    go_wp2_with (refine st ?_; clear hH; first | intro W g hH | intro W hH)
    (refine rq ?_; clear hH; intro W hH)
    go_wp2_with (refine st ?_; clear hH; first | intro W g hH | intro W hH)
    go_ret2
    exact ⟨rfl, hH.below⟩
set_option maxHeartbeats 1000000 in
theorem vbody_l {b r e : Nat} {src : List Ad} (hb : b < 8) (hl : src.length ≤ 1000) (h : AdsAt w sp src) : Gives Tryz.prog 126 #[.agg (fls [.one (.bool true), .one (.int .i64 2), .one (.int .i64 1), .one (.int .i64 (r : Int)), .many (adL g) 17, .one (.bool q), .one (.int .i64 (b : Int)), .one (.int .i64 (e : Int)), .one (.slice sp src.length sc), .one (.slice rp m rc)]).toArray] w (.tuple #[.int .i64 130, .string (str (putL (cod16 (r : Int)) 2 ++ (putL 0 2 ++ (bytesA g.v g.b ++ (putL (b + (if q then 8 else 0)) 1 ++ (putL (cod8 (e : Int)) 1 ++ (putL src.length 2 ++ srcB src)))))))]) := by
  refine Gives.of ?_
  have hH := Hp.refl w
  have oG := adL_ok g
  have HLS := Lib.hid (fun W (hb : Below w.heap.size w W) => vlist_any (c := sc) hl (h.below hb))
  have c1 := cod16_le (r : Int)
  have c2 := cod8_le (e : Int)
  have f1 : ∀ w, Gives Tryz.prog 172 #[.int .i64 (r : Int)] w (.int .i64 (cod16 (r : Int) : Int)) := fun w => Code16_any (cod16_is (r : Int))
  have f2 : ∀ w, Gives Tryz.prog 173 #[.int .i64 (e : Int)] w (.int .i64 (cod8 (e : Int) : Int)) := fun w => Code8_any (cod8_is (e : Int))
  have p0 : ∀ w, Gives Tryz.prog 127 #[.int .i64 (cod16 (r : Int) : Int), .int .i64 2] w (.string (str (putL (cod16 (r : Int)) 2))) := fun w => vput (k := 2) (by omega) (by omega)
  have pz : ∀ w, Gives Tryz.prog 127 #[.int .i64 0, .int .i64 2] w (.string (str (putL 0 2))) := fun w => vput (n := 0) (k := 2) (by omega) (by omega)
  have p1 : ∀ w, Gives Tryz.prog 127 #[.int .i64 (cod8 (e : Int) : Int), .int .i64 1] w (.string (str (putL (cod8 (e : Int)) 1))) := fun w => vput (k := 1) (by omega) (by omega)
  have p2 : ∀ w, Gives Tryz.prog 127 #[.int .i64 ((b + (if q then 8 else 0) : Nat) : Int), .int .i64 1] w (.string (str (putL (b + (if q then 8 else 0)) 1))) := fun w => vput (k := 1) (by split <;> omega) (by omega)
  have fb := fun w => vbytes (w := w) g
  have o8 := or8 b hb
  have HE := Lib.hid (show str (putL (cod16 (r : Int)) 2) ++ str (putL 0 2) ++ str (bytesA g.v g.b) ++ str (putL (b + (if q then 8 else 0)) 1) ++ str (putL (cod8 (e : Int)) 1) ++ str (putL src.length 2) ++ str (srcB src) = str (putL (cod16 (r : Int)) 2 ++ (putL 0 2 ++ (bytesA g.v g.b ++ (putL (b + (if q then 8 else 0)) 1 ++ (putL (cod8 (e : Int)) 1 ++ (putL src.length 2 ++ srcB src)))))) by simp only [str_append, List.append_assoc])
  have m0 := str_size (putL (cod16 (r : Int)) 2)
  have mz := str_size (putL 0 2)
  have m1 := str_size (putL (b + (if q then 8 else 0)) 1)
  have m2 := str_size (putL (cod8 (e : Int)) 1)
  have m3 := str_size (putL src.length 2)
  have m4 : (str (bytesA g.v g.b)).size ≤ 16 := by rw [str_size]; exact bytesA_le g
  have m5 : (str (srcB src)).size ≤ 16000 := by rw [str_size]; have := srcB_le src; omega
  rw [putL_length] at m0 mz m1 m2 m3
  clear h
  rw [← HE.out]
  clear HE
  generalize str (putL (cod16 (r : Int)) 2) = s0 at *
  generalize str (putL 0 2) = sz at *
  generalize str (bytesA g.v g.b) = s1 at *
  generalize str (putL (b + (if q then 8 else 0)) 1) = s2 at *
  generalize str (putL (cod8 (e : Int)) 1) = s3 at *
  generalize str (putL src.length 2) = s4 at *
  generalize str (srcB src) = s5 at *
  generalize adL g = G at *
  generalize cod16 (r : Int) = cr at *
  generalize cod8 (e : Int) = ce at *
  cases q
  · simp only [Bool.false_eq_true, if_false, Nat.add_zero] at p2
    go_enter Tryz.func126, Tryz.ntmps126
    go_wp2_with (first | (refine st ?_; clear hH; first | intro W g hH | intro W hH) | ((with_reducible refine callH hH ?_); refine ⟨?_, ?_, ?_⟩; rotate_left; (focus (first | (exact HLS.out _ hH.below))); (clear hH; first | intro W g hH | intro W hH); ((try simp only [Act.put, pA, pB, pC]))))
    (refine rq ?_; clear hH; intro W hH)
    go_wp2_with (refine st ?_; clear hH; first | intro W g hH | intro W hH)
    go_ret2
    exact ⟨rfl, hH.below⟩
  · simp only [if_true] at p2
    have p3 : ∀ w, Gives Tryz.prog 127 #[.int .i64 ((b : Int) + 8), .int .i64 1] w (.string s2) := fun w => by rw [show ((b : Int) + 8) = ((b + 8 : Nat) : Int) by omega]; exact p2 w
    go_enter Tryz.func126, Tryz.ntmps126
    go_wp2_with (first | (refine st ?_; clear hH; first | intro W g hH | intro W hH) | ((with_reducible refine callH hH ?_); refine ⟨?_, ?_, ?_⟩; rotate_left; (focus (first | (exact HLS.out _ hH.below))); (clear hH; first | intro W g hH | intro W hH); ((try simp only [Act.put, pA, pB, pC]))))
    (refine rq ?_; clear hH; intro W hH)
    go_wp2_with (refine st ?_; clear hH; first | intro W g hH | intro W hH)
    go_ret2
    exact ⟨rfl, hH.below⟩
set_option maxHeartbeats 2000000 in
theorem vbody_r {R : List Rc} (hR : R.all rcOk6 = true) (hl : R.length < 65) (h : RcsAt w rp R) : Gives Tryz.prog 126 #[.agg (fls [.one (.bool true), .one (.int .i64 2), .one (.int .i64 2), .one (.int .i64 resp), .many (adL g) 17, .one (.bool q), .one (.int .i64 rob), .one (.int .i64 ev), .one (.slice sp n sc), .one (.slice rp R.length rc)]).toArray] w (.tuple #[.int .i64 143, .string (str (putL 0 2 ++ (putL R.length 2 ++ recsB R)))]) := by
  refine Gives.of ?_
  have hH := Hp.refl w
  have oG := adL_ok g
  have HA := Lib.hid h
  have HR := Lib.hid hR
  clear h hR
  have fb := fun w => vbytes (w := w) g
  have p1 : ∀ w, Gives Tryz.prog 127 #[.int .i64 0, .int .i64 2] w (.string (str (putL 0 2))) := fun w => vput (n := 0) (k := 2) (by omega) (by omega)
  have p2 : ∀ w, Gives Tryz.prog 127 #[.int .i64 (R.length : Int), .int .i64 2] w (.string (str (putL R.length 2))) := fun w => vput (k := 2) (by omega) (by omega)
  have p3 : ∀ w, Gives Tryz.prog 127 #[.int .i64 0, .int .i64 1] w (.string (str (putL 0 1))) := fun w => vput (n := 0) (k := 1) (by omega) (by omega)
  have m1 := str_size (putL 0 2)
  have m2 := str_size (putL R.length 2)
  have m3 := str_size (putL 0 1)
  rw [putL_length] at m1 m2 m3
  have HS := Lib.hid (show ∀ X, str (putL 0 2 ++ (putL R.length 2 ++ X)) = str (putL 0 2) ++ str (putL R.length 2) ++ str X from fun X => by simp only [str_append, List.append_assoc])
  have HZ := Lib.hid (show ∀ (S0 : ByteArray) (X : List UInt8) (r : Rc), S0 ++ str X ++ (str (putL r.kind.toNat 1) ++ str (putL 0 1) ++ str (putL r.src.length 2) ++ str (bytesA r.grp.v r.grp.b) ++ str (srcB r.src)) = S0 ++ str (X ++ recB r) from fun S0 X r => by unfold recB; simp only [str_append, List.append_assoc, ByteArray.append_assoc])
  rw [HS.out]
  generalize str (bytesA g.v g.b) = bb at *
  generalize str (putL 0 2) = s1 at *
  generalize str (putL R.length 2) = s2 at *
  generalize str (putL 0 1) = s3 at *
  generalize adL g = G at *
  go_enter Tryz.func126, Tryz.ntmps126
  go_wp2_with (refine st ?_; clear hH; first | intro W g hH | intro W hH)
  (refine rq ?_; clear hH; intro W hH)
  go_wp2_with (refine st ?_; clear hH; first | intro W g hH | intro W hH)
  clear p1 p2 fb HS
  go_loopw [4, 29] (fun s i wr => ∃ (j : Nat) (S : ByteArray), i = .int .i64 (j : Int) ∧ j ≤ R.length ∧ s = .string S ∧ Hid (S = s1 ++ s2 ++ str (recsB (R.take j))) ∧ S.size ≤ 4 + 1100 * j ∧ Hp w.heap.size w wr []) (fun _ i _ => R.length - (intOf i).toNat)
  case atStart => exact ⟨0, s1 ++ s2, rfl, by omega, rfl, Lib.hid (data_inj (by simp [recsB, str])), by rw [ByteArray.size_append]; omega, hH.nil⟩
  case round =>
    clear hH
    obtain ⟨j, S, rfl, hj, rfl, hS, hm, hH⟩ := hrel
    by_cases hjl : j < R.length
    · obtain ⟨q0, s0, c0, hq, _, _, _, fA, fR⟩ := HA.out.get hjl
      subst hq
      have dj : decide ((j : Int) < (R.length : Int)) = true := decide_eq_true (by omega)
      obtain ⟨k1, k2, k3, k4⟩ := rcOk6_all (List.all_eq_true.1 HR.out _ (List.getElem_mem hjl))
      obtain ⟨_, hsl⟩ := srcs6_all k4
      have hN := Lib.hid (show S ++ (str (putL R[j].kind.toNat 1) ++ s3 ++ str (putL R[j].src.length 2) ++ str (bytesA R[j].grp.v R[j].grp.b) ++ str (srcB R[j].src)) = s1 ++ s2 ++ str (recsB (R.take (j + 1))) by rw [hS.out, HZ.out, recsB_snoc hjl])
      clear HZ hS HR HA k3 k4
      generalize R[j] = r at *
      obtain ⟨kd, gr, src⟩ := r
      simp only at k1 k2 hsl fA fR hN
      obtain ⟨kn, rfl⟩ : ∃ k : Nat, kd = (k : Int) := ⟨kd.toNat, by omega⟩
      rw [Int.toNat_natCast] at hN
      have oY := adL_ok gr
      have p4 : ∀ w, Gives Tryz.prog 127 #[.int .i64 (kn : Int), .int .i64 1] w (.string (str (putL kn 1))) := fun w => vput (k := 1) (by omega) (by omega)
      have fb := fun w => vbytes (w := w) gr
      have HLS := Lib.hid (fun W (hb : Below w.heap.size w W) => vlist_any (c := c0) (show src.length ≤ 1000 by omega) (fA.below hb))
      have m4 := str_size (putL kn 1)
      have m5 := str_size (putL src.length 2)
      have m6 : (str (bytesA gr.v gr.b)).size ≤ 16 := by rw [str_size]; exact bytesA_le gr
      have m7 : (str (srcB src)).size ≤ 1024 := by rw [str_size]; have := srcB_le src; omega
      rw [putL_length] at m4 m5
      generalize str (bytesA gr.v gr.b) = t1 at *
      generalize str (putL kn 1) = t2 at *
      generalize str (putL src.length 2) = t3 at *
      generalize str (srcB src) = t4 at *
      generalize adL gr = Y at *
      go_wp2_with (first | ((refine gL rfl ?_; refine hLoR tab_ok rfl ?_ rfl hH rfl rfl ?_; (focus first|exact wN rfl|exact rfl); refine ⟨_, fR, ⟨rfl, oY, rfl, trivial⟩, rfl, ?_⟩; (clear hH; (first | intro W g hH | intro W hH); (try simp only [Act.put, pA, pB, pC])))) | (refine st ?_; clear hH; first | intro W g hH | intro W hH) | ((with_reducible refine callH hH ?_); refine ⟨?_, ?_, ?_⟩; rotate_left; (focus (first | (exact HLS.out _ hH.below))); (clear hH; first | intro W g hH | intro W hH); ((try simp only [Act.put, pA, pB, pC]))))
      (refine rq ?_; clear hH; intro W hH)
      go_wp2_with (refine st ?_; clear hH; first | intro W g hH | intro W hH)
      exact ⟨⟨j + 1, S ++ (t2 ++ s3 ++ t3 ++ t1 ++ t4), by simp, by omega, rfl, hN, by simp only [ByteArray.size_append]; omega, hH.nil⟩, by simp [intOf]; omega⟩
    · have hE := Lib.hid (show S = s1 ++ s2 ++ str (recsB R) by rw [hS.out, List.take_of_length_le (by omega)])
      have dj : decide ((j : Int) < (R.length : Int)) = false := decide_eq_false (by omega)
      clear hS HA HR HZ
      go_wp2_with (refine st ?_; clear hH; first | intro W g hH | intro W hH)
      go_ret2
      exact ⟨by rw [← hE.out]; rfl, hH.below⟩
theorem vbody_any {T : Tk} (hg : good6 T = true) (hA : AdsAt w sp T.src) (hR : RcsAt w rp T.recs) : Gives Tryz.prog 126 #[.agg (fls (tkS T sp sc rp rc)).toArray] w (.tuple #[.int .i64 (kindN T : Int), .string (str (restL T))]) := by
  rcases good6_cases hg with ⟨r, g, rfl, r1, r2, hg⟩ | ⟨g, k, rfl, hg, hkv⟩ | ⟨R, rfl, hRR, hl⟩ | ⟨resp, g, q, rob, ev, src, rfl, h1, h2, h3, h4, h5, hg, h6⟩
  · have := vbody_q (w := w) (sp := sp) (sc := sc) (rp := rp) (rc := rc) (g := g) (q := false) (rob := 0) (ev := 0) (n := 0) (m := 0) (r := r.toNat) (by omega)
    rw [Int.toNat_of_nonneg (by omega)] at this
    simpa [kindN, restL, respN, tkS] using this
  · rcases hkv with rfl | rfl
    · have := vbody_k (w := w) (sp := sp) (sc := sc) (rp := rp) (rc := rc) (g := g) (q := false) (rob := 0) (ev := 0) (resp := 0) (n := 0) (m := 0) (.inl ⟨rfl, rfl⟩)
      simpa [kindN, restL, respN, tkS] using this
    · have := vbody_k (w := w) (sp := sp) (sc := sc) (rp := rp) (rc := rc) (g := g) (q := false) (rob := 0) (ev := 0) (resp := 0) (n := 0) (m := 0) (.inr ⟨rfl, rfl⟩)
      simpa [kindN, restL, respN, tkS] using this
  · have := vbody_r (w := w) (sp := sp) (sc := sc) (rp := rp) (rc := rc) (g := Ad.z) (q := false) (rob := 0) (ev := 0) (resp := 0) (n := 0) hRR hl hR
    simpa [kindN, restL, respN, tkS] using this
  · obtain ⟨b, rfl⟩ : ∃ b : Nat, rob = (b : Int) := ⟨rob.toNat, by omega⟩
    obtain ⟨rn, rfl⟩ : ∃ b : Nat, resp = (b : Int) := ⟨valN 4096 (cod16 resp), h1.symm⟩
    obtain ⟨en, rfl⟩ : ∃ b : Nat, ev = (b : Int) := ⟨valN 16 (cod8 ev), h2.symm⟩
    obtain ⟨_, hl⟩ := srcs6_all h5
    have := vbody_l (w := w) (sp := sp) (sc := sc) (rp := rp) (rc := rc) (g := g) (q := q) (b := b) (r := rn) (e := en) (m := 0) (src := src) (by omega) (by omega) hA
    simpa [kindN, restL, respN, flagN, tkS] using this
end
theorem kindN_lt (T : Tk) : kindN T < 256 := by unfold kindN; split <;> (try split) <;> (try split) <;> omega
theorem putL4 {n : Nat} (h : n < 65536) : putL n 4 = putL 0 2 ++ putL n 2 := by
  have e3 : byteAt n 3 = byteAt 0 1 := UInt8.toNat_inj.1 (by rw [byteAt_toNat, byteAt_toNat, Nat.div_eq_of_lt (by omega), Nat.zero_div])
  have e2 : byteAt n 2 = byteAt 0 0 := UInt8.toNat_inj.1 (by rw [byteAt_toNat, byteAt_toNat, Nat.div_eq_of_lt (by omega), Nat.zero_div])
  show [byteAt n 3, byteAt n 2, byteAt n 1, byteAt n 0] = [byteAt 0 1, byteAt 0 0, byteAt n 1, byteAt n 0]
  rw [e3, e2]
noncomputable def wrV (f t : Ad) (T : Tk) : ByteArray × Int := if (f.v && t.v) = false then (⟨#[]⟩, 1) else if good6 T then (writeT f t T, 0) else (⟨#[]⟩, 2)
section
variable {w : World} {sp rp : Option Addr} {sc rc : Nat} {T : Tk} {f t : Ad}
set_option maxHeartbeats 4000000 in
theorem vWrite_any (hA : AdsAt w sp T.src) (hR : RcsAt w rp T.recs) : Gives Tryz.prog 78 #[.agg (fls (tkS T sp sc rp rc)).toArray, .agg (fls [.many (adL f) 17]).toArray, .agg (fls [.many (adL t) 17]).toArray] w (.tuple #[.string (wrV f t T).1, .int .i64 (wrV f t T).2]) := by
  refine Gives.of ?_
  have hH := Hp.refl w
  have hsix := Lib.hid (fun (W : World) (g c : Nat) (ty : TypeId) (h : Row W g ty (fls [.many (adL f) 17, .many (adL t) 17]).toArray) => vsix2_any (c := c) h)
  have oF := adL_ok f
  have oT := adL_ok t
  have F1 := Lib.hid (fun W (hb : Below w.heap.size w W) => vgood_any (T := T) (sc := sc) (rc := rc) (hA.below hb) (hR.below hb))
  unfold wrV
  cases hv : (f.v && t.v)
  · rw [hv] at hsix
    rw [if_pos rfl]
    clear hA hR hv F1
    obtain ⟨v6, ver, kind, resp, G0, quiet, rob, every, src, recs⟩ := T
    unfold tkS at *
    have oG := adL_ok G0
    simp only at *
    generalize adL G0 = G at *
    generalize adL f = AF at *
    generalize adL t = AT at *
    go_enter Tryz.func78, Tryz.ntmps78
    go_wp2_with (first | ((go_at_call 124; refine callR 0 hH rfl (fun hr => hsix.out _ _ _ _ hr) ?_; (clear hH; (first | intro W g hH | intro W hH); (try simp only [Act.put, pA, pB, pC])))) | (refine st ?_; clear hH; first | intro W g hH | intro W hH))
    go_ret2
    exact ⟨rfl, hH.below⟩
  rw [hv] at hsix
  rw [if_neg (show ¬ (true = false) by simp)]
  cases hg : good6 T
  · rw [hg] at F1
    rw [if_neg (show ¬ (false = true) by simp)]
    clear hA hR hg hv
    obtain ⟨v6, ver, kind, resp, G0, quiet, rob, every, src, recs⟩ := T
    unfold tkS at *
    have oG := adL_ok G0
    simp only at *
    generalize adL G0 = G at *
    generalize adL f = AF at *
    generalize adL t = AT at *
    go_enter Tryz.func78, Tryz.ntmps78
    go_wp2_with (first | ((go_at_call 124; refine callR 0 hH rfl (fun hr => hsix.out _ _ _ _ hr) ?_; (clear hH; (first | intro W g hH | intro W hH); (try simp only [Act.put, pA, pB, pC])))) | (refine st ?_; clear hH; first | intro W g hH | intro W hH) | ((with_reducible refine callH hH ?_); refine ⟨?_, ?_, ?_⟩; rotate_left; (focus (first | (exact F1.out _ hH.below))); (clear hH; first | intro W g hH | intro W hH); ((try simp only [Act.put, pA, pB, pC]))))
    go_ret2
    exact ⟨rfl, hH.below⟩
  · rw [hg] at F1
    rw [if_pos rfl]
    have F2 := Lib.hid (fun W (hb : Below w.heap.size w W) => vbody_any (sc := sc) (rc := rc) hg (hA.below hb) (hR.below hb))
    have hk := kindN_lt T
    have hr := restL_le hg
    have p1 : ∀ w, Gives Tryz.prog 127 #[.int .i64 (kindN T : Int), .int .i64 1] w (.string (str (putL (kindN T) 1))) := fun w => vput (k := 1) (by omega) (by omega)
    have p2 : ∀ w, Gives Tryz.prog 127 #[.int .i64 0, .int .i64 1] w (.string (str (putL 0 1))) := fun w => vput (n := 0) (k := 1) (by omega) (by omega)
    have p3 : ∀ w, Gives Tryz.prog 127 #[.int .i64 (sumN f t T : Int), .int .i64 2] w (.string (str (putL (sumN f t T) 2))) := fun w => vput (k := 2) (by unfold sumN; omega) (by omega)
    have m1 := str_size (putL (kindN T) 1)
    have m2 := str_size (putL 0 1)
    have m3 := str_size (putL (sumN f t T) 2)
    have m4 : (str (restL T)).size ≤ 90000 := by rw [str_size]; omega
    rw [putL_length] at m1 m2 m3
    have hps : ∀ w, Gives Tryz.prog 129 #[.agg (fls [.many (adL f) 17]).toArray, .agg (fls [.many (adL t) 17]).toArray, .int .i64 (((str (restL T)).size : Int) + 4)] w (.string (psB f t (4 + (restL T).length))) := fun w => by
      have h := vpseudo_any (f := f) (t := t) (w := w) (n := 4 + (restL T).length) (by omega)
      rwa [show ((4 + (restL T).length : Nat) : Int) = ((str (restL T)).size : Int) + 4 by rw [str_size]; omega] at h
    have mp := psB_size (f := f) (t := t) (4 + (restL T).length)
    have hck : ∀ w g c, Row w g 9 (fls [.one (.string (psB f t (4 + (restL T).length))), .one (.string (str (putL (kindN T) 1) ++ str (putL 0 1))), .one (.string (str (restL T)))]).toArray → Gives Tryz.prog 128 #[.slice (some ⟨g, 0, none⟩) 3 c] w (.int .i64 (sumN f t T : Int)) := fun w g c hrow => by
      have h := Check_row (m := 3) (c := c) (ss := [psB f t (4 + (restL T).length), str (putL (kindN T) 1) ++ str (putL 0 1), str (restL T)]) rfl (small3 (by omega) (by rw [ByteArray.size_append]; omega) (by omega)) (by simpa [fls] using hrow)
      have e : flat [psB f t (4 + (restL T).length), str (putL (kindN T) 1) ++ str (putL 0 1), str (restL T)] = psL f t T ++ (headL T ++ restL T) := by simp [flat, headL, psL, str]
      rw [e] at h
      exact h
    have HW := Lib.hid (show str (putL (kindN T) 1) ++ str (putL 0 1) ++ str (putL (sumN f t T) 2) ++ str (restL T) = writeT f t T by unfold writeT headL; simp only [str_append, List.append_assoc])
    clear hA hR hg hv
    simp only [← HW.out]
    clear HW
    generalize psB f t (4 + (restL T).length) = PB at *
    generalize str (putL (kindN T) 1) = s1 at *
    generalize str (putL 0 1) = s2 at *
    generalize str (putL (sumN f t T) 2) = s3 at *
    generalize str (restL T) = s4 at *
    generalize (sumN f t T : Int) = x3 at *
    generalize (kindN T : Int) = x1 at *
    clear hk hr
    obtain ⟨v6, ver, kind, resp, G0, quiet, rob, every, src, recs⟩ := T
    unfold tkS at *
    have oG := adL_ok G0
    simp only at *
    generalize adL G0 = G at *
    generalize adL f = AF at *
    generalize adL t = AT at *
    go_enter Tryz.func78, Tryz.ntmps78
    go_wp2_with (first | ((go_at_call 128; refine callR 0 hH rfl (fun hr => hck _ _ _ hr) ?_; (clear hH; (first | intro W g hH | intro W hH); (try simp only [Act.put, pA, pB, pC])))) | ((go_at_call 124; refine callR 0 hH rfl (fun hr => hsix.out _ _ _ _ hr) ?_; (clear hH; (first | intro W g hH | intro W hH); (try simp only [Act.put, pA, pB, pC])))) | (refine st ?_; clear hH; first | intro W g hH | intro W hH) | ((with_reducible refine callH hH ?_); refine ⟨?_, ?_, ?_⟩; rotate_left; (focus (first | (exact F1.out _ hH.below) | (exact F2.out _ hH.below))); (clear hH; first | intro W g hH | intro W hH); ((try simp only [Act.put, pA, pB, pC]))))
    go_ret2
    exact ⟨rfl, hH.below⟩
noncomputable def rwO (f t : Ad) (K : Nat) (rest : List UInt8) : ByteArray := str ((putL K 1 ++ putL 0 1) ++ (putL (65535 - foldN (wsum ((psB f t (4 + rest.length)).data.toList ++ ((putL K 1 ++ putL 0 1) ++ rest)))) 2 ++ rest))
theorem writeT_rwO (T : Tk) : writeT f t T = rwO f t (kindN T) (restL T) := rfl
theorem z01 : (⟨#[0]⟩ : ByteArray) = str (putL 0 1) := by kernel_rfl
theorem z02 : (⟨#[0, 0]⟩ : ByteArray) = str (putL 0 2) := by kernel_rfl
theorem rwTail {K : Nat} {rest : List UInt8} (hK : K < 256) (hr : rest.length ≤ 300000) : ∃ (PB s6 u3 u4 : ByteArray) (fl : Int), str rest = u4 ∧ PB.size ≤ 100 ∧ s6.size = 1 ∧ u3.size = 2 ∧ u4.size ≤ 300000 ∧ rwO f t K rest = s6 ++ ⟨#[0]⟩ ++ u3 ++ u4 ∧ (∀ w, Gives Tryz.prog 62 #[.agg (fls [.many (adL f) 17]).toArray, .agg (fls [.many (adL t) 17]).toArray, .int .i64 58, .int .i64 (4 + (u4.size : Int))] w (.string PB)) ∧ (∀ w, Gives Tryz.prog 90 #[.int .i64 (K : Int), .int .i64 1] w (.string s6)) ∧ (∀ w, Gives Tryz.prog 58 #[.string (PB ++ (s6 ++ ⟨#[0]⟩) ++ u4)] w (.int .i64 fl)) ∧ (∀ w, Gives Tryz.prog 90 #[.int .i64 (65535 - fl), .int .i64 2] w (.string u3)) ∧ 0 ≤ fl ∧ fl ≤ 65535 := by
  have mp := psB_size (f := f) (t := t) (4 + rest.length)
  have hfl := foldN_le (wsum ((psB f t (4 + rest.length)).data.toList ++ ((putL K 1 ++ putL 0 1) ++ rest)))
  refine ⟨psB f t (4 + rest.length), str (putL K 1), str (putL (65535 - foldN (wsum ((psB f t (4 + rest.length)).data.toList ++ ((putL K 1 ++ putL 0 1) ++ rest)))) 2), str rest, (foldN (wsum ((psB f t (4 + rest.length)).data.toList ++ ((putL K 1 ++ putL 0 1) ++ rest))) : Int), rfl, mp, by rw [str_size, putL_length], by rw [str_size, putL_length], by rw [str_size]; omega, ?_, fun w => ?_, fun w => ?_, fun w => ?_, fun w => ?_, by omega, by omega⟩
  · unfold rwO
    rw [z01]
    simp only [str_append, List.append_assoc]
  · have h := rpsB_any (f := f) (t := t) (w := w) (n := 4 + rest.length) (by omega)
    rwa [show ((4 + rest.length : Nat) : Int) = 4 + ((str rest).size : Int) by rw [str_size]; omega] at h
  · exact rnum9 (n := K) (k := 1) (by omega) (by omega)
  · have h := rSum_any (s := psB f t (4 + rest.length) ++ (str (putL K 1) ++ ⟨#[0]⟩) ++ str rest) (w := w) (by simp only [ByteArray.size_append, str_size, putL_length, z01]; omega)
    have e : (psB f t (4 + rest.length) ++ (str (putL K 1) ++ ⟨#[0]⟩) ++ str rest).data.toList = (psB f t (4 + rest.length)).data.toList ++ ((putL K 1 ++ putL 0 1) ++ rest) := by rw [z01]; simp [toList_append, str_toList]
    rwa [e] at h
  · have h := rnum9 (w := w) (n := 65535 - foldN (wsum ((psB f t (4 + rest.length)).data.toList ++ ((putL K 1 ++ putL 0 1) ++ rest)))) (k := 2) (by omega) (by omega)
    rwa [show ((65535 - foldN (wsum ((psB f t (4 + rest.length)).data.toList ++ ((putL K 1 ++ putL 0 1) ++ rest))) : Nat) : Int) = 65535 - (foldN (wsum ((psB f t (4 + rest.length)).data.toList ++ ((putL K 1 ++ putL 0 1) ++ rest))) : Int) by omega] at h
set_option maxHeartbeats 4000000 in
theorem rw_q {g : Ad} {q : Bool} {rob ev : Int} {n m : Nat} {r : Nat} (hr : r < 65536) : Gives Tryz.prog 42 #[.agg (fls [.one (.bool true), .one (.int .i64 1), .one (.int .i64 1), .one (.int .i64 (r : Int)), .many (adL g) 17, .one (.bool q), .one (.int .i64 rob), .one (.int .i64 ev), .one (.slice sp n sc), .one (.slice rp m rc)]).toArray, .agg (fls [.many (adL f) 17]).toArray, .agg (fls [.many (adL t) 17]).toArray] w (.string (rwO f t 130 (putL r 2 ++ (putL 0 2 ++ bytesA g.v g.b)))) := by
  refine Gives.of ?_
  have hH := Hp.refl w
  have oF := adL_ok f
  have oT := adL_ok t
  have oG := adL_ok g
  have fb := fun w => rbytes9 (w := w) g
  have hbl := bytesA_le g
  obtain ⟨PB, s6, u3, u4, fl, hu4, mp, m6, m3, m4, hout, t0, t1, t3, t4, fl0, fl1⟩ := rwTail (f := f) (t := t) (K := 130) (rest := (putL r 2 ++ (putL 0 2 ++ bytesA g.v g.b))) (by omega) (by simp only [List.length_append, putL_length]; omega)
  rw [hout]
  clear hout
  replace t1 : ∀ w, Gives Tryz.prog 90 #[.int .i64 130, .int .i64 1] w (.string s6) := t1
  have n1 : ∀ w, Gives Tryz.prog 90 #[.int .i64 (r : Int), .int .i64 2] w (.string (str (putL r 2))) := fun w => rnum9 (n := r) (k := 2) (by omega) (by omega)
  have mz : (⟨#[0, 0]⟩ : ByteArray).size = 2 := rfl
  have m5 : (str (bytesA g.v g.b)).size ≤ 16 := by rw [str_size]; exact bytesA_le g
  have m2 := str_size (putL r 2)
  rw [putL_length] at m2
  have HE := Lib.hid (show str (putL r 2) ++ ⟨#[0, 0]⟩ ++ str (bytesA g.v g.b) = u4 by rw [← hu4, z02]; simp only [str_append, List.append_assoc])
  clear hu4
  generalize str (bytesA g.v g.b) = b at *
  generalize str (putL r 2) = s1 at *
  generalize adL g = G at *
  generalize adL f = AF at *
  generalize adL t = AT at *
  go_enter Tryz.func42, Tryz.ntmps42
  go_wp2_with (refine st ?_; clear hH; first | intro W g hH | intro W hH)
  (refine rq ?_; clear hH; intro W hH)
  rw [HE.out]
  go_wp2_with (first | (refine st ?_; clear hH; first | intro W g hH | intro W hH) | ((with_reducible refine callH hH ?_); refine ⟨?_, ?_, ?_⟩; rotate_left; (focus (first | (with_reducible exact t1 _) | (with_reducible exact t4 _))); (clear hH; first | intro W g hH | intro W hH); ((try simp only [Act.put, pA, pB, pC]))))
  go_ret
  exact ⟨rfl, hH.below⟩
set_option maxHeartbeats 4000000 in
theorem rw_2 {g : Ad} {q : Bool} {rob ev : Int} {n m : Nat}   : Gives Tryz.prog 42 #[.agg (fls [.one (.bool true), .one (.int .i64 1), .one (.int .i64 2), .one (.int .i64 0), .many (adL g) 17, .one (.bool q), .one (.int .i64 rob), .one (.int .i64 ev), .one (.slice sp n sc), .one (.slice rp m rc)]).toArray, .agg (fls [.many (adL f) 17]).toArray, .agg (fls [.many (adL t) 17]).toArray] w (.string (rwO f t 131 (putL 0 2 ++ (putL 0 2 ++ bytesA g.v g.b)))) := by
  refine Gives.of ?_
  have hH := Hp.refl w
  have oF := adL_ok f
  have oT := adL_ok t
  have oG := adL_ok g
  have fb := fun w => rbytes9 (w := w) g
  have hbl := bytesA_le g
  obtain ⟨PB, s6, u3, u4, fl, hu4, mp, m6, m3, m4, hout, t0, t1, t3, t4, fl0, fl1⟩ := rwTail (f := f) (t := t) (K := 131) (rest := (putL 0 2 ++ (putL 0 2 ++ bytesA g.v g.b))) (by omega) (by simp only [List.length_append, putL_length]; omega)
  rw [hout]
  clear hout
  replace t1 : ∀ w, Gives Tryz.prog 90 #[.int .i64 131, .int .i64 1] w (.string s6) := t1
  have n1 : ∀ w, Gives Tryz.prog 90 #[.int .i64 0, .int .i64 2] w (.string (str (putL 0 2))) := fun w => rnum9 (n := 0) (k := 2) (by omega) (by omega)
  have mz : (⟨#[0, 0]⟩ : ByteArray).size = 2 := rfl
  have m5 : (str (bytesA g.v g.b)).size ≤ 16 := by rw [str_size]; exact bytesA_le g
  have m2 := str_size (putL 0 2)
  rw [putL_length] at m2
  have HE := Lib.hid (show str (putL 0 2) ++ ⟨#[0, 0]⟩ ++ str (bytesA g.v g.b) = u4 by rw [← hu4, z02]; simp only [str_append, List.append_assoc])
  clear hu4
  generalize str (bytesA g.v g.b) = b at *
  generalize str (putL 0 2) = s1 at *
  generalize adL g = G at *
  generalize adL f = AF at *
  generalize adL t = AT at *
  go_enter Tryz.func42, Tryz.ntmps42
  go_wp2_with (refine st ?_; clear hH; first | intro W g hH | intro W hH)
  (refine rq ?_; clear hH; intro W hH)
  rw [HE.out]
  go_wp2_with (first | (refine st ?_; clear hH; first | intro W g hH | intro W hH) | ((with_reducible refine callH hH ?_); refine ⟨?_, ?_, ?_⟩; rotate_left; (focus (first | (with_reducible exact t1 _) | (with_reducible exact t4 _))); (clear hH; first | intro W g hH | intro W hH); ((try simp only [Act.put, pA, pB, pC]))))
  go_ret
  exact ⟨rfl, hH.below⟩
set_option maxHeartbeats 4000000 in
theorem rw_3 {g : Ad} {q : Bool} {rob ev : Int} {n m : Nat}   : Gives Tryz.prog 42 #[.agg (fls [.one (.bool true), .one (.int .i64 1), .one (.int .i64 3), .one (.int .i64 0), .many (adL g) 17, .one (.bool q), .one (.int .i64 rob), .one (.int .i64 ev), .one (.slice sp n sc), .one (.slice rp m rc)]).toArray, .agg (fls [.many (adL f) 17]).toArray, .agg (fls [.many (adL t) 17]).toArray] w (.string (rwO f t 132 (putL 0 2 ++ (putL 0 2 ++ bytesA g.v g.b)))) := by
  refine Gives.of ?_
  have hH := Hp.refl w
  have oF := adL_ok f
  have oT := adL_ok t
  have oG := adL_ok g
  have fb := fun w => rbytes9 (w := w) g
  have hbl := bytesA_le g
  obtain ⟨PB, s6, u3, u4, fl, hu4, mp, m6, m3, m4, hout, t0, t1, t3, t4, fl0, fl1⟩ := rwTail (f := f) (t := t) (K := 132) (rest := (putL 0 2 ++ (putL 0 2 ++ bytesA g.v g.b))) (by omega) (by simp only [List.length_append, putL_length]; omega)
  rw [hout]
  clear hout
  replace t1 : ∀ w, Gives Tryz.prog 90 #[.int .i64 132, .int .i64 1] w (.string s6) := t1
  have n1 : ∀ w, Gives Tryz.prog 90 #[.int .i64 0, .int .i64 2] w (.string (str (putL 0 2))) := fun w => rnum9 (n := 0) (k := 2) (by omega) (by omega)
  have mz : (⟨#[0, 0]⟩ : ByteArray).size = 2 := rfl
  have m5 : (str (bytesA g.v g.b)).size ≤ 16 := by rw [str_size]; exact bytesA_le g
  have m2 := str_size (putL 0 2)
  rw [putL_length] at m2
  have HE := Lib.hid (show str (putL 0 2) ++ ⟨#[0, 0]⟩ ++ str (bytesA g.v g.b) = u4 by rw [← hu4, z02]; simp only [str_append, List.append_assoc])
  clear hu4
  generalize str (bytesA g.v g.b) = b at *
  generalize str (putL 0 2) = s1 at *
  generalize adL g = G at *
  generalize adL f = AF at *
  generalize adL t = AT at *
  go_enter Tryz.func42, Tryz.ntmps42
  go_wp2_with (refine st ?_; clear hH; first | intro W g hH | intro W hH)
  (refine rq ?_; clear hH; intro W hH)
  rw [HE.out]
  go_wp2_with (first | (refine st ?_; clear hH; first | intro W g hH | intro W hH) | ((with_reducible refine callH hH ?_); refine ⟨?_, ?_, ?_⟩; rotate_left; (focus (first | (with_reducible exact t1 _) | (with_reducible exact t4 _))); (clear hH; first | intro W g hH | intro W hH); ((try simp only [Act.put, pA, pB, pC]))))
  go_ret
  exact ⟨rfl, hH.below⟩
set_option maxHeartbeats 4000000 in
theorem rw_l {g : Ad} {q : Bool} {m b r e : Nat} {src : List Ad} (hb : b < 8) (hr : r < 9223372036854775808) (he : e < 9223372036854775808) (hl : src.length ≤ 1000) (h : AdsAt w sp src) : Gives Tryz.prog 42 #[.agg (fls [.one (.bool true), .one (.int .i64 2), .one (.int .i64 1), .one (.int .i64 (r : Int)), .many (adL g) 17, .one (.bool q), .one (.int .i64 (b : Int)), .one (.int .i64 (e : Int)), .one (.slice sp src.length sc), .one (.slice rp m rc)]).toArray, .agg (fls [.many (adL f) 17]).toArray, .agg (fls [.many (adL t) 17]).toArray] w (.string (rwO f t 130 (putL (cod16 (r : Int)) 2 ++ (putL 0 2 ++ (bytesA g.v g.b ++ (putL (b + (if q then 8 else 0)) 1 ++ (putL (cod8 (e : Int)) 1 ++ (putL src.length 2 ++ srcB src)))))))) := by
  refine Gives.of ?_
  have hH := Hp.refl w
  have oF := adL_ok f
  have oT := adL_ok t
  have oG := adL_ok g
  have fb := fun w => rbytes9 (w := w) g
  have hbl := bytesA_le g
  have hsl := srcB_le src
  have c1 := cod16_le (r : Int)
  have c2 := cod8_le (e : Int)
  obtain ⟨PB, s6, u3, u4, fl, hu4, mp, m6, m3, m4, hout, t0, t1, t3, t4, fl0, fl1⟩ := rwTail (f := f) (t := t) (K := 130) (rest := (putL (cod16 (r : Int)) 2 ++ (putL 0 2 ++ (bytesA g.v g.b ++ (putL (b + (if q then 8 else 0)) 1 ++ (putL (cod8 (e : Int)) 1 ++ (putL src.length 2 ++ srcB src))))))) (by omega) (by simp only [List.length_append, putL_length]; omega)
  rw [hout]
  clear hout
  replace t1 : ∀ w, Gives Tryz.prog 90 #[.int .i64 130, .int .i64 1] w (.string s6) := t1
  have HLS := Lib.hid (fun W (hb : Below w.heap.size w W) => rlist_any (c := sc) hl (h.below hb))
  have f1 : ∀ w, Gives Tryz.prog 93 #[.int .i64 (r : Int)] w (.int .i64 (cod16 (r : Int) : Int)) := fun w => rCode16_any (cod16_is (r : Int)) ⟨by omega, by omega⟩
  have f2 : ∀ w, Gives Tryz.prog 94 #[.int .i64 (e : Int)] w (.int .i64 (cod8 (e : Int) : Int)) := fun w => rCode8_any (cod8_is (e : Int)) ⟨by omega, by omega⟩
  have n1 : ∀ w, Gives Tryz.prog 90 #[.int .i64 (cod16 (r : Int) : Int), .int .i64 2] w (.string (str (putL (cod16 (r : Int)) 2))) := fun w => rnum9 (k := 2) (by omega) (by omega)
  have p1 : ∀ w, Gives Tryz.prog 90 #[.int .i64 (cod8 (e : Int) : Int), .int .i64 1] w (.string (str (putL (cod8 (e : Int)) 1))) := fun w => rnum9 (k := 1) (by omega) (by omega)
  have p2 : ∀ w, Gives Tryz.prog 90 #[.int .i64 ((b + (if q then 8 else 0) : Nat) : Int), .int .i64 1] w (.string (str (putL (b + (if q then 8 else 0)) 1))) := fun w => rnum9 (k := 1) (by split <;> omega) (by omega)
  have p3 : ∀ w, Gives Tryz.prog 90 #[.int .i64 (src.length : Int), .int .i64 2] w (.string (str (putL src.length 2))) := fun w => rnum9 (k := 2) (by omega) (by omega)
  have HE := Lib.hid (show str (putL (cod16 (r : Int)) 2) ++ ⟨#[0, 0]⟩ ++ str (bytesA g.v g.b) ++ str (putL (b + (if q then 8 else 0)) 1) ++ str (putL (cod8 (e : Int)) 1) ++ str (putL src.length 2) ++ str (srcB src) = u4 by rw [← hu4, z02]; simp only [str_append, List.append_assoc])
  clear hu4
  have mz : (⟨#[0, 0]⟩ : ByteArray).size = 2 := rfl
  have k0 := str_size (putL (cod16 (r : Int)) 2)
  have k1 := str_size (putL (b + (if q then 8 else 0)) 1)
  have k2 := str_size (putL (cod8 (e : Int)) 1)
  have k3 := str_size (putL src.length 2)
  have k4 : (str (bytesA g.v g.b)).size ≤ 16 := by rw [str_size]; exact bytesA_le g
  have k5 : (str (srcB src)).size ≤ 16000 := by rw [str_size]; omega
  rw [putL_length] at k0 k1 k2 k3
  clear h
  generalize str (putL (cod16 (r : Int)) 2) = a0 at *
  generalize str (bytesA g.v g.b) = a1 at *
  generalize str (putL (b + (if q then 8 else 0)) 1) = a2 at *
  generalize str (putL (cod8 (e : Int)) 1) = a3 at *
  generalize str (putL src.length 2) = a4 at *
  generalize str (srcB src) = a5 at *
  generalize adL g = G at *
  generalize adL f = AF at *
  generalize adL t = AT at *
  generalize cod16 (r : Int) = cr at *
  generalize cod8 (e : Int) = ce at *
  cases q
  · simp only [Bool.false_eq_true, if_false, Nat.add_zero] at p2
    go_enter Tryz.func42, Tryz.ntmps42
    go_wp2_with (refine st ?_; clear hH; first | intro W g hH | intro W hH)
    (refine rq ?_; clear hH; intro W hH)
    go_wp2_with (refine st ?_; clear hH; first | intro W g hH | intro W hH)
    ((with_reducible refine regQ hH (by kernel_rfl) (by kernel_rfl) ?_); intro hne; (repeat (first | (go_big_quiet_want; (first | (refine qiL tab_ok rfl rfl ?_; refine ⟨_, _, rfl, rfl, ?_⟩) | (refine qiLi tab_ok rfl rfl ?_; refine ⟨_, _, _, ?_, rfl, rfl, rfl, ?_, ?_⟩; rotate_left; (focus assumption)) | (refine qBd tab_ok rfl rfl rfl rfl ?_; refine ⟨?_, ?_, ?_⟩; rotate_left; (focus (repeat (first | exact BR.nil | refine BR.one rfl rfl rfl ?_ | (refine BR.row rfl rfl rfl rfl ?_ ?_; (focus (repeat (first | exact trivial | assumption | exact OkA.z (by kernel_rfl) (by kernel_rfl) | refine ⟨rfl, ?_⟩ | refine ⟨?_, ?_⟩))))))))); (try simp only [Act.put, pA, pB, pC]); go_big_quiet_on) | go_big_quiet_step (((with_reducible apply callQ); first | (with_reducible exact f2 _) | (with_reducible exact p1 _) | (with_reducible exact p2 _) | (with_reducible exact p3 _) | (exact HLS.out _ (HW.hp _).below))))); refine wpQuiet_nil ?_; clear hne hH; intro W hH)
    rw [HE.out]
    go_wp2_with (first | (refine st ?_; clear hH; first | intro W g hH | intro W hH) | ((with_reducible refine callH hH ?_); refine ⟨?_, ?_, ?_⟩; rotate_left; (focus (first | (with_reducible exact t1 _) | (with_reducible exact t4 _))); (clear hH; first | intro W g hH | intro W hH); ((try simp only [Act.put, pA, pB, pC]))))
    go_ret
    exact ⟨rfl, hH.below⟩
  · simp only [if_true] at p2
    have e8 : (b : Int) + 8 = ((b + 8 : Nat) : Int) := by push_cast; rfl
    rw [← e8] at p2
    clear e8
    go_enter Tryz.func42, Tryz.ntmps42
    go_wp2_with (refine st ?_; clear hH; first | intro W g hH | intro W hH)
    (refine rq ?_; clear hH; intro W hH)
    go_wp2_with (refine st ?_; clear hH; first | intro W g hH | intro W hH)
    ((with_reducible refine regQ hH (by kernel_rfl) (by kernel_rfl) ?_); intro hne; (repeat (first | (go_big_quiet_want; (first | (refine qiL tab_ok rfl rfl ?_; refine ⟨_, _, rfl, rfl, ?_⟩) | (refine qiLi tab_ok rfl rfl ?_; refine ⟨_, _, _, ?_, rfl, rfl, rfl, ?_, ?_⟩; rotate_left; (focus assumption)) | (refine qBd tab_ok rfl rfl rfl rfl ?_; refine ⟨?_, ?_, ?_⟩; rotate_left; (focus (repeat (first | exact BR.nil | refine BR.one rfl rfl rfl ?_ | (refine BR.row rfl rfl rfl rfl ?_ ?_; (focus (repeat (first | exact trivial | assumption | exact OkA.z (by kernel_rfl) (by kernel_rfl) | refine ⟨rfl, ?_⟩ | refine ⟨?_, ?_⟩))))))))); (try simp only [Act.put, pA, pB, pC]); go_big_quiet_on) | go_big_quiet_step (((with_reducible apply callQ); first | (with_reducible exact f2 _) | (with_reducible exact p1 _) | (with_reducible exact p2 _) | (with_reducible exact p3 _) | (exact HLS.out _ (HW.hp _).below))))); refine wpQuiet_nil ?_; clear hne hH; intro W hH)
    rw [HE.out]
    go_wp2_with (first | (refine st ?_; clear hH; first | intro W g hH | intro W hH) | ((with_reducible refine callH hH ?_); refine ⟨?_, ?_, ?_⟩; rotate_left; (focus (first | (with_reducible exact t1 _) | (with_reducible exact t4 _))); (clear hH; first | intro W g hH | intro W hH); ((try simp only [Act.put, pA, pB, pC]))))
    go_ret
    exact ⟨rfl, hH.below⟩
set_option maxHeartbeats 4000000 in
theorem rw_r {g : Ad} {q : Bool} {rob ev : Int} {n : Nat} {R : List Rc} (hR : R.all rcOk6 = true) (hl : R.length < 100) (h : RcsAt w rp R) : Gives Tryz.prog 42 #[.agg (fls [.one (.bool true), .one (.int .i64 2), .one (.int .i64 2), .one (.int .i64 0), .many (adL g) 17, .one (.bool q), .one (.int .i64 rob), .one (.int .i64 ev), .one (.slice sp n sc), .one (.slice rp R.length rc)]).toArray, .agg (fls [.many (adL f) 17]).toArray, .agg (fls [.many (adL t) 17]).toArray] w (.string (rwO f t 143 (putL R.length 4 ++ recsB R))) := by
  refine Gives.of ?_
  have hH := Hp.refl w
  have oF := adL_ok f
  have oT := adL_ok t
  have oG := adL_ok g
  have HA := Lib.hid h
  have hrl := recsB_len hR
  have hrl2 := recN_le (k := 20) (s := 16) rcOk6_len R hR
  have hrl3 : R.length * (20 + 16 * 64) ≤ 100 * (20 + 16 * 64) := Nat.mul_le_mul_right _ (by omega)
  have HR := Lib.hid hR
  obtain ⟨PB, s6, u3, u4, fl, hu4, mp, m6, m3, m4, hout, t0, t1, t3, t4, fl0, fl1⟩ := rwTail (f := f) (t := t) (K := 143) (rest := (putL R.length 4 ++ recsB R)) (by omega) (by simp only [List.length_append, putL_length]; omega)
  rw [hout]
  clear hout
  replace t1 : ∀ w, Gives Tryz.prog 90 #[.int .i64 143, .int .i64 1] w (.string s6) := t1
  clear h hR
  have n1 : ∀ w, Gives Tryz.prog 90 #[.int .i64 (R.length : Int), .int .i64 4] w (.string (str (putL R.length 4))) := fun w => rnum9 (k := 4) (by omega) (by omega)
  have m2 := str_size (putL R.length 4)
  rw [putL_length] at m2
  have HQ := Lib.hid (show str (putL R.length 4) ++ str (recsB R) = u4 by rw [← hu4, str_append])
  have HZ := Lib.hid (show ∀ (S0 : ByteArray) (X : List UInt8) (r : Rc), S0 ++ str X ++ str (putL r.kind.toNat 1) ++ ⟨#[0]⟩ ++ str (putL r.src.length 2) ++ str (bytesA r.grp.v r.grp.b) ++ str (srcB r.src) = S0 ++ str (X ++ recB r) from fun S0 X r => by
    rw [z01]
    unfold recB
    simp only [str_append, List.append_assoc, ByteArray.append_assoc])
  clear hrl hrl2 hrl3 hu4
  have T3 := Lib.hid t3
  have T0 := Lib.hid t0
  clear t3 t0
  generalize str (putL R.length 4) = s2 at *
  generalize adL g = G at *
  generalize adL f = AF at *
  generalize adL t = AT at *
  go_enter Tryz.func42, Tryz.ntmps42
  go_wp2_with (refine st ?_; clear hH; first | intro W g hH | intro W hH)
  clear n1
  go_loopw [8, 9] (fun s i wr => ∃ (j : Nat) (S : ByteArray), i = .int .i64 (j : Int) ∧ j ≤ R.length ∧ s = .string S ∧ Hid (S = s2 ++ str (recsB (R.take j))) ∧ S.size ≤ 4 + 1100 * j ∧ Hp w.heap.size w wr [(_, 25, true, [.many AT 17]), (_, 25, true, [.many AF 17]), (_, 29, true, [.one (.bool true), .one (.int .i64 2), .one (.int .i64 2), .one (.int .i64 0), .many G 17, .one (.bool q), .one (.int .i64 rob), .one (.int .i64 ev), .one (.slice sp n sc), .one (.slice rp R.length rc)])]) (fun _ i _ => R.length - (intOf i).toNat)
  case atStart => exact ⟨0, s2, rfl, by omega, rfl, Lib.hid (data_inj (by simp [recsB, str])), by omega, hH⟩
  case round =>
    clear hH
    obtain ⟨j, S, rfl, hj, rfl, hS, hm, hH⟩ := hrel
    by_cases hjl : j < R.length
    · obtain ⟨q0, s0, c0, hq, _, _, _, fA, fR⟩ := HA.out.get hjl
      subst hq
      have dj : decide ((j : Int) < (R.length : Int)) = true := decide_eq_true (by omega)
      obtain ⟨k1, k2, k3, k4⟩ := rcOk6_all (List.all_eq_true.1 HR.out _ (List.getElem_mem hjl))
      obtain ⟨_, hsl⟩ := srcs6_all k4
      have hN := Lib.hid (show S ++ str (putL R[j].kind.toNat 1) ++ ⟨#[0]⟩ ++ str (putL R[j].src.length 2) ++ str (bytesA R[j].grp.v R[j].grp.b) ++ str (srcB R[j].src) = s2 ++ str (recsB (R.take (j + 1))) by rw [hS.out, HZ.out, recsB_snoc hjl])
      clear HZ hS HR HA HQ T3 T0 t1 t4 k3 k4 m6 m3 m4 mp
      generalize R[j] = r at *
      obtain ⟨kd, gr, src⟩ := r
      simp only at k1 k2 hsl fA fR hN
      obtain ⟨kn, rfl⟩ : ∃ k : Nat, kd = (k : Int) := ⟨kd.toNat, by omega⟩
      rw [Int.toNat_natCast] at hN
      have oY := adL_ok gr
      have p4 : ∀ w, Gives Tryz.prog 90 #[.int .i64 (kn : Int), .int .i64 1] w (.string (str (putL kn 1))) := fun w => rnum9 (k := 1) (by omega) (by omega)
      have p5 : ∀ w, Gives Tryz.prog 90 #[.int .i64 (src.length : Int), .int .i64 2] w (.string (str (putL src.length 2))) := fun w => rnum9 (k := 2) (by omega) (by omega)
      have fb := fun w => rbytes9 (w := w) gr
      have HLS := Lib.hid (fun W (hb : Below w.heap.size w W) => rlist_any (c := c0) (show src.length ≤ 1000 by omega) (fA.below hb))
      have m4 := str_size (putL kn 1)
      have m5 := str_size (putL src.length 2)
      have m6 : (str (bytesA gr.v gr.b)).size ≤ 16 := by rw [str_size]; exact bytesA_le gr
      have m7 : (str (srcB src)).size ≤ 1024 := by rw [str_size]; have := srcB_le src; omega
      rw [putL_length] at m4 m5
      have mz : (⟨#[0]⟩ : ByteArray).size = 1 := rfl
      generalize str (bytesA gr.v gr.b) = t1 at *
      generalize str (putL kn 1) = t2 at *
      generalize str (putL src.length 2) = t3 at *
      generalize str (srcB src) = t4 at *
      generalize adL gr = Y at *
      go_wp2_with (first | ((refine gL rfl ?_; refine hLoR tab_ok rfl ?_ rfl hH rfl rfl ?_; (focus first|exact wN rfl|exact rfl); refine ⟨_, fR, ⟨rfl, oY, rfl, trivial⟩, rfl, ?_⟩; (clear hH; (first | intro W g hH | intro W hH); (try simp only [Act.put, pA, pB, pC])))) | (refine st ?_; clear hH; first | intro W g hH | intro W hH))
      ((with_reducible refine regQ hH (by kernel_rfl) (by kernel_rfl) ?_); intro hne; (repeat (first | (go_big_quiet_want; (first | (refine qiL tab_ok rfl rfl ?_; refine ⟨_, _, rfl, rfl, ?_⟩) | (refine qiLi tab_ok rfl rfl ?_; refine ⟨_, _, _, ?_, rfl, rfl, rfl, ?_, ?_⟩; rotate_left; (focus assumption)) | (refine qBd tab_ok rfl rfl rfl rfl ?_; refine ⟨?_, ?_, ?_⟩; rotate_left; (focus (repeat (first | exact BR.nil | refine BR.one rfl rfl rfl ?_ | (refine BR.row rfl rfl rfl rfl ?_ ?_; (focus (repeat (first | exact trivial | assumption | exact OkA.z (by kernel_rfl) (by kernel_rfl) | refine ⟨rfl, ?_⟩ | refine ⟨?_, ?_⟩))))))))); (try simp only [Act.put, pA, pB, pC]); go_big_quiet_on) | go_big_quiet_step (((with_reducible apply callQ); first | (with_reducible exact p4 _) | (with_reducible exact p5 _) | (with_reducible exact fb _) | (exact HLS.out _ (HW.hp _).below))))); refine wpQuiet_nil ?_; clear hne hH; intro W hH)
      go_wp2_with (refine st ?_; clear hH; first | intro W g hH | intro W hH)
      exact ⟨⟨j + 1, S ++ t2 ++ ⟨#[0]⟩ ++ t3 ++ t1 ++ t4, by simp, by omega, rfl, hN, by simp only [ByteArray.size_append]; omega, hH.sub (SubH.drop SubH.refl)⟩, by simp [intOf]; omega⟩
    · have hE : u4 = S := by rw [hS.out, List.take_of_length_le (by omega), HQ.out]
      have dj : decide ((j : Int) < (R.length : Int)) = false := decide_eq_false (by omega)
      have t3 := T3.out
      have t0 := T0.out
      subst hE
      have mz : (⟨#[0]⟩ : ByteArray).size = 1 := rfl
      clear hS HA HR HZ HQ T3 T0
      go_wp2_with (first | (refine st ?_; clear hH; first | intro W g hH | intro W hH) | ((with_reducible refine callH hH ?_); refine ⟨?_, ?_, ?_⟩; rotate_left; (focus (first | (with_reducible exact t1 _) | (with_reducible exact t4 _))); (clear hH; first | intro W g hH | intro W hH); ((try simp only [Act.put, pA, pB, pC]))))
      go_ret
      exact ⟨rfl, hH.below⟩
theorem rWrite_any (hg : good6 T = true) (hI : inI T.resp ∧ inI T.every) (hA : AdsAt w sp T.src) (hR : RcsAt w rp T.recs) : Gives Tryz.prog 42 #[.agg (fls (tkS T sp sc rp rc)).toArray, .agg (fls [.many (adL f) 17]).toArray, .agg (fls [.many (adL t) 17]).toArray] w (.string (writeT f t T)) := by
  unfold inI at hI
  rw [writeT_rwO]
  rcases good6_cases hg with ⟨r, g, rfl, r1, r2, hg⟩ | ⟨g, k, rfl, hg, hkv⟩ | ⟨R, rfl, hRR, hl⟩ | ⟨resp, g, q, rob, ev, src, rfl, h1, h2, h3, h4, h5, hg, h6⟩
  · have := rw_q (w := w) (f := f) (t := t) (sp := sp) (sc := sc) (rp := rp) (rc := rc) (g := g) (q := false) (rob := 0) (ev := 0) (n := 0) (m := 0) (r := r.toNat) (by omega)
    rw [Int.toNat_of_nonneg (by omega)] at this
    simpa [kindN, restL, respN, tkS] using this
  · rcases hkv with rfl | rfl
    · have := rw_2 (w := w) (f := f) (t := t) (sp := sp) (sc := sc) (rp := rp) (rc := rc) (g := g) (q := false) (rob := 0) (ev := 0) (n := 0) (m := 0)
      simpa [kindN, restL, respN, tkS] using this
    · have := rw_3 (w := w) (f := f) (t := t) (sp := sp) (sc := sc) (rp := rp) (rc := rc) (g := g) (q := false) (rob := 0) (ev := 0) (n := 0) (m := 0)
      simpa [kindN, restL, respN, tkS] using this
  · have := rw_r (w := w) (f := f) (t := t) (sp := sp) (sc := sc) (rp := rp) (rc := rc) (g := Ad.z) (q := false) (rob := 0) (ev := 0) (n := 0) hRR (by omega) hR
    rw [putL4 (by omega)] at this
    simpa [kindN, restL, respN, tkS] using this
  · obtain ⟨b, rfl⟩ : ∃ b : Nat, rob = (b : Int) := ⟨rob.toNat, by omega⟩
    obtain ⟨rn, rfl⟩ : ∃ b : Nat, resp = (b : Int) := ⟨valN 4096 (cod16 resp), h1.symm⟩
    obtain ⟨en, rfl⟩ : ∃ b : Nat, ev = (b : Int) := ⟨valN 16 (cod8 ev), h2.symm⟩
    obtain ⟨_, hl⟩ := srcs6_all h5
    simp only at hI
    have := rw_l (w := w) (f := f) (t := t) (sp := sp) (sc := sc) (rp := rp) (rc := rc) (g := g) (q := q) (b := b) (r := rn) (e := en) (m := 0) (src := src) (by omega) (by omega) (by omega) (by omega) hA
    simpa [kindN, restL, respN, flagN, tkS] using this
end
end Go.Proofs.YtdnehjhijmeihaaGreat.V
