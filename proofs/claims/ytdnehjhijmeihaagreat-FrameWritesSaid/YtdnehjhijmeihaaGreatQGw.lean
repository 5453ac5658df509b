/-
  Joined texts: Gw.
-/
import Derived.Test.YtdnehjhijmeihaaGreatQGq
namespace Go.Proofs.YtdnehjhijmeihaaGreat
open Go.ChangeShapes Go.WideShapes Go.ChangeAt Go.RowKit
set_option linter.unusedVariables false
set_option linter.unusedSimpArgs false
set_option maxRecDepth 20000
attribute [local irreducible] wpList
theorem restL_le {T : Tk} (h : good4 T = true) : (restL T).length ≤ 50000 := by
  rcases good4_cases h with rfl | ⟨r, g, rfl, r1, r2, hg⟩ | ⟨g, k, v, rfl, hg, hkv⟩ | ⟨R, rfl, hR, hl⟩ | ⟨resp, g, q, rob, ev, src, rfl, h1, h2, h3, h4, h5, hg, h6⟩
  · decide
  · have := bytesA_le g
    simp [restL]
    omega
  · have := bytesA_le g
    unfold restL
    simp only
    rw [if_neg (by omega), if_neg (by omega)]
    omega
  · have h1 := recsB_len hR
    have h2 := recN_le (k := 8) (s := 4) rcOk4_len R hR
    have h3 : R.length * (8 + 4 * 64) ≤ 64 * (8 + 4 * 64) := Nat.mul_le_mul_right _ (by omega)
    simp [restL, putL_length]
    omega
  · have := bytesA_le g
    have h1 := srcB_le src
    have h2 := (srcs4_all h5).2
    simp [restL, putL_length]
    omega
theorem kindN_lt (T : Tk) : kindN T < 256 := by unfold kindN; split <;> (try split) <;> (try split) <;> (try split) <;> omega
theorem secN_lt {T : Tk} (h : good4 T = true) : secN T < 256 := by
  rcases good4_cases h with rfl | ⟨r, g, rfl, r1, r2, hg⟩ | ⟨g, k, v, rfl, hg, hkv⟩ | ⟨R, rfl, hR, hl⟩ | ⟨resp, g, q, rob, ev, src, rfl, h1, h2, h3, h4, h5, hg, h6⟩
  · simp [secN]
  · simp [secN]; omega
  · rcases hkv with ⟨rfl, rfl⟩ | ⟨rfl, rfl⟩ | ⟨rfl, rfl⟩ <;> simp [secN]
  · simp [secN]
  · have := cod8_le resp
    simp [secN]
    omega
theorem putL4 {n : Nat} (h : n < 65536) : putL n 4 = putL 0 2 ++ putL n 2 := by
  have e3 : byteAt n 3 = byteAt 0 1 := UInt8.toNat_inj.1 (by rw [byteAt_toNat, byteAt_toNat, Nat.div_eq_of_lt (by omega), Nat.zero_div])
  have e2 : byteAt n 2 = byteAt 0 0 := UInt8.toNat_inj.1 (by rw [byteAt_toNat, byteAt_toNat, Nat.div_eq_of_lt (by omega), Nat.zero_div])
  show [byteAt n 3, byteAt n 2, byteAt n 1, byteAt n 0] = [byteAt 0 1, byteAt 0 0, byteAt n 1, byteAt n 0]
  rw [e3, e2]
section
variable {w : World} {sp rp : Option Addr} {sc rc : Nat} {T : Tk}
set_option maxHeartbeats 2000000 in
theorem iWrite_any (hA : AdsAt w sp T.src) (hR : RcsAt w rp T.recs) : Gives Tryz.prog 80 #[.agg (fls (tkS T sp sc rp rc)).toArray] w (.tuple #[.string (if good4 T then writeT T else ⟨#[]⟩), .int .i64 (if good4 T then 0 else 2)]) := by
  refine Gives.of ?_
  have hH := Hp.refl w
  have F1 := Lib.hid (fun W (hb : Below w.heap.size w W) => igood_any (T := T) (sc := sc) (rc := rc) (hA.below hb) (hR.below hb))
  cases hg : good4 T
  · rw [hg] at F1
    clear hA hR hg
    obtain ⟨v6, ver, kind, resp, G0, quiet, rob, every, src, recs⟩ := T
    unfold tkS at *
    have oG := adL_ok G0
    simp only at *
    generalize adL G0 = G at *
    go_enter Tryz.func80, Tryz.ntmps80
    go_wp2_with (first | (refine st ?_; clear hH; first | intro W g hH | intro W hH) | ((with_reducible refine callH hH ?_); refine ⟨?_, ?_, ?_⟩; rotate_left; (focus (first | (exact F1.out _ hH.below))); (clear hH; first | intro W g hH | intro W hH); ((try simp only [Act.put, pA, pB, pC]))))
    go_ret2
    exact ⟨rfl, hH.below⟩
  · rw [hg] at F1
    have F2 := Lib.hid (fun W (hb : Below w.heap.size w W) => ibody_any (sc := sc) (rc := rc) hg (hA.below hb) (hR.below hb))
    have hk := kindN_lt T
    have hs := secN_lt hg
    have hr := restL_le hg
    have p1 : ∀ w, Gives Tryz.prog 135 #[.int .i64 (kindN T : Int), .int .i64 1] w (.string (str (putL (kindN T) 1))) := fun w => put08 (k := 1) (by omega) (by omega)
    have p2 : ∀ w, Gives Tryz.prog 135 #[.int .i64 (secN T : Int), .int .i64 1] w (.string (str (putL (secN T) 1))) := fun w => put08 (k := 1) (by omega) (by omega)
    have p3 : ∀ w, Gives Tryz.prog 135 #[.int .i64 (sumN T : Int), .int .i64 2] w (.string (str (putL (sumN T) 2))) := fun w => put08 (k := 2) (by unfold sumN; omega) (by omega)
    have m1 := str_size (putL (kindN T) 1)
    have m2 := str_size (putL (secN T) 1)
    have m3 := str_size (putL (sumN T) 2)
    have m4 : (str (restL T)).size ≤ 50000 := by rw [str_size]; omega
    rw [putL_length] at m1 m2 m3
    have hck : ∀ w g c, Row w g 9 (fls [.one (.string (str (putL (kindN T) 1) ++ str (putL (secN T) 1))), .one (.string (str (restL T)))]).toArray → Gives Tryz.prog 128 #[.slice (some ⟨g, 0, none⟩) 2 c] w (.int .i64 (sumN T : Int)) := fun w g c hrow => by
      have h := Check_any (ss := [str (putL (kindN T) 1) ++ str (putL (secN T) 1), str (restL T)]) (c := c) (strs_row hrow) (by simp only [List.mem_cons, List.not_mem_nil, or_false]; rintro s (rfl | rfl) <;> (try rw [ByteArray.size_append]) <;> omega) (by simp) hrow.lt
      have e : flat [str (putL (kindN T) 1) ++ str (putL (secN T) 1), str (restL T)] = headL T ++ restL T := by simp [flat, headL, str]
      rw [e] at h
      exact h
    have HW := Lib.hid (show str (putL (kindN T) 1) ++ str (putL (secN T) 1) ++ str (putL (sumN T) 2) ++ str (restL T) = writeT T by unfold writeT headL; simp only [str_append, List.append_assoc])
    clear hA hR hg
    rw [if_pos rfl, if_pos rfl, ← HW.out]
    clear HW
    generalize str (putL (kindN T) 1) = s1 at *
    generalize str (putL (secN T) 1) = s2 at *
    generalize str (putL (sumN T) 2) = s3 at *
    generalize str (restL T) = s4 at *
    generalize (sumN T : Int) = x3 at *
    generalize (secN T : Int) = x2 at *
    generalize (kindN T : Int) = x1 at *
    clear hk hs hr
    obtain ⟨v6, ver, kind, resp, G0, quiet, rob, every, src, recs⟩ := T
    unfold tkS at *
    have oG := adL_ok G0
    simp only at *
    generalize adL G0 = G at *
    go_enter Tryz.func80, Tryz.ntmps80
    go_wp2_with (first | ((go_at_call 128; refine callR 0 hH rfl (fun hr => hck _ _ _ hr) ?_; (clear hH; (first | intro W g hH | intro W hH); (try simp only [Act.put, pA, pB, pC])))) | (refine st ?_; clear hH; first | intro W g hH | intro W hH) | ((with_reducible refine callH hH ?_); refine ⟨?_, ?_, ?_⟩; rotate_left; (focus (first | (exact F1.out _ hH.below) | (exact F2.out _ hH.below))); (clear hH; first | intro W g hH | intro W hH); ((try simp only [Act.put, pA, pB, pC]))))
    go_ret2
    exact ⟨rfl, hH.below⟩
theorem rwrite_q {g : Ad} {q : Bool} {rob ev : Int} {n m : Nat} {ver : Int} {r : Nat} (hv : ver = 1 ∨ ver = 2) (hr : r < 256) : Gives Tryz.prog 43 #[.agg (fls [.one (.bool false), .one (.int .i64 ver), .one (.int .i64 1), .one (.int .i64 (r : Int)), .many (adL g) 17, .one (.bool q), .one (.int .i64 rob), .one (.int .i64 ev), .one (.slice sp n sc), .one (.slice rp m rc)]).toArray] w (.string (str ((putL 17 1 ++ putL r 1) ++ (putL (65535 - foldN (wsum ((putL 17 1 ++ putL r 1) ++ bytesA g.v g.b))) 2 ++ bytesA g.v g.b)))) := by
  refine Gives.of ?_
  have hH := Hp.refl w
  have oG := adL_ok g
  have fb := fun w => rbytes08 (w := w) g
  have hbl := bytesA_le g
  have t1 : ∀ w, Gives Tryz.prog 95 #[.int .i64 (17 : Int), .int .i64 1] w (.string (str (putL 17 1))) := fun w => rnum08 (n := 17) (k := 1) (by omega) (by omega)
  have t2 : ∀ w, Gives Tryz.prog 95 #[.int .i64 (r : Int), .int .i64 1] w (.string (str (putL r 1))) := fun w => rnum08 (n := r) (k := 1) (by omega) (by omega)
  have hfl := foldN_le (wsum ((putL 17 1 ++ putL r 1) ++ bytesA g.v g.b))
  have t3 : ∀ w, Gives Tryz.prog 58 #[.string (str (putL 17 1) ++ str (putL r 1) ++ str (bytesA g.v g.b))] w (.int .i64 (foldN (wsum ((putL 17 1 ++ putL r 1) ++ bytesA g.v g.b)) : Int)) := fun w => by
    have h := rSum_any (s := str (putL 17 1) ++ str (putL r 1) ++ str (bytesA g.v g.b)) (w := w) (by simp only [ByteArray.size_append, str_size, putL_length]; omega)
    have e : (str (putL 17 1) ++ str (putL r 1) ++ str (bytesA g.v g.b)).data.toList = (putL 17 1 ++ putL r 1) ++ bytesA g.v g.b := by simp [str]
    rwa [e] at h
  have t4 : ∀ w, Gives Tryz.prog 95 #[.int .i64 (65535 - (foldN (wsum ((putL 17 1 ++ putL r 1) ++ bytesA g.v g.b)) : Int)), .int .i64 2] w (.string (str (putL (65535 - foldN (wsum ((putL 17 1 ++ putL r 1) ++ bytesA g.v g.b))) 2))) := fun w => by
    have h := rnum08 (w := w) (n := 65535 - foldN (wsum ((putL 17 1 ++ putL r 1) ++ bytesA g.v g.b))) (k := 2) (by omega) (by omega)
    rwa [show ((65535 - foldN (wsum ((putL 17 1 ++ putL r 1) ++ bytesA g.v g.b)) : Nat) : Int) = 65535 - (foldN (wsum ((putL 17 1 ++ putL r 1) ++ bytesA g.v g.b)) : Int) by omega] at h
  have HW := Lib.hid (show str (putL 17 1) ++ str (putL r 1) ++ str (putL (65535 - foldN (wsum ((putL 17 1 ++ putL r 1) ++ bytesA g.v g.b))) 2) ++ str (bytesA g.v g.b) = str ((putL 17 1 ++ putL r 1) ++ (putL (65535 - foldN (wsum ((putL 17 1 ++ putL r 1) ++ bytesA g.v g.b))) 2 ++ bytesA g.v g.b)) by simp only [str_append, List.append_assoc])
  rw [← HW.out]
  clear HW
  have z1 := str_size (putL 17 1)
  have z2 := str_size (putL r 1)
  have z3 := str_size (putL (65535 - foldN (wsum ((putL 17 1 ++ putL r 1) ++ bytesA g.v g.b))) 2)
  rw [putL_length] at z1 z2 z3
  generalize foldN (wsum ((putL 17 1 ++ putL r 1) ++ bytesA g.v g.b)) = fl at *
  generalize str (putL (65535 - fl) 2) = u3 at *
  have z4 : (str (bytesA g.v g.b)).size ≤ 16 := by rw [str_size]; exact bytesA_le g
  generalize str (bytesA g.v g.b) = u4 at *
  generalize adL g = G at *
  generalize str (putL 17 1) = u1 at *
  generalize str (putL r 1) = u2 at *
  rcases hv with rfl | rfl
  all_goals
    go_enter Tryz.func43, Tryz.ntmps43
    go_wp2_with (refine st ?_; clear hH; first | intro W g hH | intro W hH)
    (refine rq ?_; clear hH; intro W hH)
    go_wp2_with (refine st ?_; clear hH; first | intro W g hH | intro W hH)
    go_ret
    exact ⟨rfl, hH.below⟩
theorem rwrite_l {g : Ad} {q : Bool} {rob ev : Int} {n m : Nat}  : Gives Tryz.prog 43 #[.agg (fls [.one (.bool false), .one (.int .i64 2), .one (.int .i64 3), .one (.int .i64 0), .many (adL g) 17, .one (.bool q), .one (.int .i64 rob), .one (.int .i64 ev), .one (.slice sp n sc), .one (.slice rp m rc)]).toArray] w (.string (str ((putL 23 1 ++ putL 0 1) ++ (putL (65535 - foldN (wsum ((putL 23 1 ++ putL 0 1) ++ bytesA g.v g.b))) 2 ++ bytesA g.v g.b)))) := by
  refine Gives.of ?_
  have hH := Hp.refl w
  have oG := adL_ok g
  have fb := fun w => rbytes08 (w := w) g
  have hbl := bytesA_le g
  have t1 : ∀ w, Gives Tryz.prog 95 #[.int .i64 (23 : Int), .int .i64 1] w (.string (str (putL 23 1))) := fun w => rnum08 (n := 23) (k := 1) (by omega) (by omega)
  have t2 : ∀ w, Gives Tryz.prog 95 #[.int .i64 (0 : Int), .int .i64 1] w (.string (str (putL 0 1))) := fun w => rnum08 (n := 0) (k := 1) (by omega) (by omega)
  have hfl := foldN_le (wsum ((putL 23 1 ++ putL 0 1) ++ bytesA g.v g.b))
  have t3 : ∀ w, Gives Tryz.prog 58 #[.string (str (putL 23 1) ++ str (putL 0 1) ++ str (bytesA g.v g.b))] w (.int .i64 (foldN (wsum ((putL 23 1 ++ putL 0 1) ++ bytesA g.v g.b)) : Int)) := fun w => by
    have h := rSum_any (s := str (putL 23 1) ++ str (putL 0 1) ++ str (bytesA g.v g.b)) (w := w) (by simp only [ByteArray.size_append, str_size, putL_length]; omega)
    have e : (str (putL 23 1) ++ str (putL 0 1) ++ str (bytesA g.v g.b)).data.toList = (putL 23 1 ++ putL 0 1) ++ bytesA g.v g.b := by simp [str]
    rwa [e] at h
  have t4 : ∀ w, Gives Tryz.prog 95 #[.int .i64 (65535 - (foldN (wsum ((putL 23 1 ++ putL 0 1) ++ bytesA g.v g.b)) : Int)), .int .i64 2] w (.string (str (putL (65535 - foldN (wsum ((putL 23 1 ++ putL 0 1) ++ bytesA g.v g.b))) 2))) := fun w => by
    have h := rnum08 (w := w) (n := 65535 - foldN (wsum ((putL 23 1 ++ putL 0 1) ++ bytesA g.v g.b))) (k := 2) (by omega) (by omega)
    rwa [show ((65535 - foldN (wsum ((putL 23 1 ++ putL 0 1) ++ bytesA g.v g.b)) : Nat) : Int) = 65535 - (foldN (wsum ((putL 23 1 ++ putL 0 1) ++ bytesA g.v g.b)) : Int) by omega] at h
  have HW := Lib.hid (show str (putL 23 1) ++ str (putL 0 1) ++ str (putL (65535 - foldN (wsum ((putL 23 1 ++ putL 0 1) ++ bytesA g.v g.b))) 2) ++ str (bytesA g.v g.b) = str ((putL 23 1 ++ putL 0 1) ++ (putL (65535 - foldN (wsum ((putL 23 1 ++ putL 0 1) ++ bytesA g.v g.b))) 2 ++ bytesA g.v g.b)) by simp only [str_append, List.append_assoc])
  rw [← HW.out]
  clear HW
  have z1 := str_size (putL 23 1)
  have z2 := str_size (putL 0 1)
  have z3 := str_size (putL (65535 - foldN (wsum ((putL 23 1 ++ putL 0 1) ++ bytesA g.v g.b))) 2)
  rw [putL_length] at z1 z2 z3
  generalize foldN (wsum ((putL 23 1 ++ putL 0 1) ++ bytesA g.v g.b)) = fl at *
  generalize str (putL (65535 - fl) 2) = u3 at *
  have z4 : (str (bytesA g.v g.b)).size ≤ 16 := by rw [str_size]; exact bytesA_le g
  generalize str (bytesA g.v g.b) = u4 at *
  generalize adL g = G at *
  generalize str (putL 23 1) = u1 at *
  generalize str (putL 0 1) = u2 at *
  go_enter Tryz.func43, Tryz.ntmps43
  go_wp2_with (refine st ?_; clear hH; first | intro W g hH | intro W hH)
  (refine rq ?_; clear hH; intro W hH)
  go_wp2_with (refine st ?_; clear hH; first | intro W g hH | intro W hH)
  go_ret
  exact ⟨rfl, hH.below⟩
theorem rwrite_r1 {g : Ad} {q : Bool} {rob ev : Int} {n m : Nat}  : Gives Tryz.prog 43 #[.agg (fls [.one (.bool false), .one (.int .i64 1), .one (.int .i64 2), .one (.int .i64 0), .many (adL g) 17, .one (.bool q), .one (.int .i64 rob), .one (.int .i64 ev), .one (.slice sp n sc), .one (.slice rp m rc)]).toArray] w (.string (str ((putL 18 1 ++ putL 0 1) ++ (putL (65535 - foldN (wsum ((putL 18 1 ++ putL 0 1) ++ bytesA g.v g.b))) 2 ++ bytesA g.v g.b)))) := by
  refine Gives.of ?_
  have hH := Hp.refl w
  have oG := adL_ok g
  have fb := fun w => rbytes08 (w := w) g
  have hbl := bytesA_le g
  have t1 : ∀ w, Gives Tryz.prog 95 #[.int .i64 (18 : Int), .int .i64 1] w (.string (str (putL 18 1))) := fun w => rnum08 (n := 18) (k := 1) (by omega) (by omega)
  have t2 : ∀ w, Gives Tryz.prog 95 #[.int .i64 (0 : Int), .int .i64 1] w (.string (str (putL 0 1))) := fun w => rnum08 (n := 0) (k := 1) (by omega) (by omega)
  have hfl := foldN_le (wsum ((putL 18 1 ++ putL 0 1) ++ bytesA g.v g.b))
  have t3 : ∀ w, Gives Tryz.prog 58 #[.string (str (putL 18 1) ++ str (putL 0 1) ++ str (bytesA g.v g.b))] w (.int .i64 (foldN (wsum ((putL 18 1 ++ putL 0 1) ++ bytesA g.v g.b)) : Int)) := fun w => by
    have h := rSum_any (s := str (putL 18 1) ++ str (putL 0 1) ++ str (bytesA g.v g.b)) (w := w) (by simp only [ByteArray.size_append, str_size, putL_length]; omega)
    have e : (str (putL 18 1) ++ str (putL 0 1) ++ str (bytesA g.v g.b)).data.toList = (putL 18 1 ++ putL 0 1) ++ bytesA g.v g.b := by simp [str]
    rwa [e] at h
  have t4 : ∀ w, Gives Tryz.prog 95 #[.int .i64 (65535 - (foldN (wsum ((putL 18 1 ++ putL 0 1) ++ bytesA g.v g.b)) : Int)), .int .i64 2] w (.string (str (putL (65535 - foldN (wsum ((putL 18 1 ++ putL 0 1) ++ bytesA g.v g.b))) 2))) := fun w => by
    have h := rnum08 (w := w) (n := 65535 - foldN (wsum ((putL 18 1 ++ putL 0 1) ++ bytesA g.v g.b))) (k := 2) (by omega) (by omega)
    rwa [show ((65535 - foldN (wsum ((putL 18 1 ++ putL 0 1) ++ bytesA g.v g.b)) : Nat) : Int) = 65535 - (foldN (wsum ((putL 18 1 ++ putL 0 1) ++ bytesA g.v g.b)) : Int) by omega] at h
  have HW := Lib.hid (show str (putL 18 1) ++ str (putL 0 1) ++ str (putL (65535 - foldN (wsum ((putL 18 1 ++ putL 0 1) ++ bytesA g.v g.b))) 2) ++ str (bytesA g.v g.b) = str ((putL 18 1 ++ putL 0 1) ++ (putL (65535 - foldN (wsum ((putL 18 1 ++ putL 0 1) ++ bytesA g.v g.b))) 2 ++ bytesA g.v g.b)) by simp only [str_append, List.append_assoc])
  rw [← HW.out]
  clear HW
  have z1 := str_size (putL 18 1)
  have z2 := str_size (putL 0 1)
  have z3 := str_size (putL (65535 - foldN (wsum ((putL 18 1 ++ putL 0 1) ++ bytesA g.v g.b))) 2)
  rw [putL_length] at z1 z2 z3
  generalize foldN (wsum ((putL 18 1 ++ putL 0 1) ++ bytesA g.v g.b)) = fl at *
  generalize str (putL (65535 - fl) 2) = u3 at *
  have z4 : (str (bytesA g.v g.b)).size ≤ 16 := by rw [str_size]; exact bytesA_le g
  generalize str (bytesA g.v g.b) = u4 at *
  generalize adL g = G at *
  generalize str (putL 18 1) = u1 at *
  generalize str (putL 0 1) = u2 at *
  go_enter Tryz.func43, Tryz.ntmps43
  go_wp2_with (refine st ?_; clear hH; first | intro W g hH | intro W hH)
  (refine rq ?_; clear hH; intro W hH)
  go_wp2_with (refine st ?_; clear hH; first | intro W g hH | intro W hH)
  go_ret
  exact ⟨rfl, hH.below⟩
theorem rwrite_r2 {g : Ad} {q : Bool} {rob ev : Int} {n m : Nat}  : Gives Tryz.prog 43 #[.agg (fls [.one (.bool false), .one (.int .i64 2), .one (.int .i64 2), .one (.int .i64 0), .many (adL g) 17, .one (.bool q), .one (.int .i64 rob), .one (.int .i64 ev), .one (.slice sp n sc), .one (.slice rp m rc)]).toArray] w (.string (str ((putL 22 1 ++ putL 0 1) ++ (putL (65535 - foldN (wsum ((putL 22 1 ++ putL 0 1) ++ bytesA g.v g.b))) 2 ++ bytesA g.v g.b)))) := by
  refine Gives.of ?_
  have hH := Hp.refl w
  have oG := adL_ok g
  have fb := fun w => rbytes08 (w := w) g
  have hbl := bytesA_le g
  have t1 : ∀ w, Gives Tryz.prog 95 #[.int .i64 (22 : Int), .int .i64 1] w (.string (str (putL 22 1))) := fun w => rnum08 (n := 22) (k := 1) (by omega) (by omega)
  have t2 : ∀ w, Gives Tryz.prog 95 #[.int .i64 (0 : Int), .int .i64 1] w (.string (str (putL 0 1))) := fun w => rnum08 (n := 0) (k := 1) (by omega) (by omega)
  have hfl := foldN_le (wsum ((putL 22 1 ++ putL 0 1) ++ bytesA g.v g.b))
  have t3 : ∀ w, Gives Tryz.prog 58 #[.string (str (putL 22 1) ++ str (putL 0 1) ++ str (bytesA g.v g.b))] w (.int .i64 (foldN (wsum ((putL 22 1 ++ putL 0 1) ++ bytesA g.v g.b)) : Int)) := fun w => by
    have h := rSum_any (s := str (putL 22 1) ++ str (putL 0 1) ++ str (bytesA g.v g.b)) (w := w) (by simp only [ByteArray.size_append, str_size, putL_length]; omega)
    have e : (str (putL 22 1) ++ str (putL 0 1) ++ str (bytesA g.v g.b)).data.toList = (putL 22 1 ++ putL 0 1) ++ bytesA g.v g.b := by simp [str]
    rwa [e] at h
  have t4 : ∀ w, Gives Tryz.prog 95 #[.int .i64 (65535 - (foldN (wsum ((putL 22 1 ++ putL 0 1) ++ bytesA g.v g.b)) : Int)), .int .i64 2] w (.string (str (putL (65535 - foldN (wsum ((putL 22 1 ++ putL 0 1) ++ bytesA g.v g.b))) 2))) := fun w => by
    have h := rnum08 (w := w) (n := 65535 - foldN (wsum ((putL 22 1 ++ putL 0 1) ++ bytesA g.v g.b))) (k := 2) (by omega) (by omega)
    rwa [show ((65535 - foldN (wsum ((putL 22 1 ++ putL 0 1) ++ bytesA g.v g.b)) : Nat) : Int) = 65535 - (foldN (wsum ((putL 22 1 ++ putL 0 1) ++ bytesA g.v g.b)) : Int) by omega] at h
  have HW := Lib.hid (show str (putL 22 1) ++ str (putL 0 1) ++ str (putL (65535 - foldN (wsum ((putL 22 1 ++ putL 0 1) ++ bytesA g.v g.b))) 2) ++ str (bytesA g.v g.b) = str ((putL 22 1 ++ putL 0 1) ++ (putL (65535 - foldN (wsum ((putL 22 1 ++ putL 0 1) ++ bytesA g.v g.b))) 2 ++ bytesA g.v g.b)) by simp only [str_append, List.append_assoc])
  rw [← HW.out]
  clear HW
  have z1 := str_size (putL 22 1)
  have z2 := str_size (putL 0 1)
  have z3 := str_size (putL (65535 - foldN (wsum ((putL 22 1 ++ putL 0 1) ++ bytesA g.v g.b))) 2)
  rw [putL_length] at z1 z2 z3
  generalize foldN (wsum ((putL 22 1 ++ putL 0 1) ++ bytesA g.v g.b)) = fl at *
  generalize str (putL (65535 - fl) 2) = u3 at *
  have z4 : (str (bytesA g.v g.b)).size ≤ 16 := by rw [str_size]; exact bytesA_le g
  generalize str (bytesA g.v g.b) = u4 at *
  generalize adL g = G at *
  generalize str (putL 22 1) = u1 at *
  generalize str (putL 0 1) = u2 at *
  go_enter Tryz.func43, Tryz.ntmps43
  go_wp2_with (refine st ?_; clear hH; first | intro W g hH | intro W hH)
  (refine rq ?_; clear hH; intro W hH)
  go_wp2_with (refine st ?_; clear hH; first | intro W g hH | intro W hH)
  go_ret
  exact ⟨rfl, hH.below⟩
set_option maxHeartbeats 2000000 in
theorem rwrite_q3 {g : Ad} {q : Bool} {m b r e : Nat} {src : List Ad} (hb : b < 8) (hr : r < 9223372036854775808) (he : e < 9223372036854775808) (hl : src.length ≤ 1000) (h : AdsAt w sp src) : Gives Tryz.prog 43 #[.agg (fls [.one (.bool false), .one (.int .i64 3), .one (.int .i64 1), .one (.int .i64 (r : Int)), .many (adL g) 17, .one (.bool q), .one (.int .i64 (b : Int)), .one (.int .i64 (e : Int)), .one (.slice sp src.length sc), .one (.slice rp m rc)]).toArray] w (.string (str ((putL 17 1 ++ putL (cod8 (r : Int)) 1) ++ (putL (65535 - foldN (wsum ((putL 17 1 ++ putL (cod8 (r : Int)) 1) ++ (bytesA g.v g.b ++ (putL (b + (if q then 8 else 0)) 1 ++ (putL (cod8 (e : Int)) 1 ++ (putL src.length 2 ++ srcB src))))))) 2 ++ (bytesA g.v g.b ++ (putL (b + (if q then 8 else 0)) 1 ++ (putL (cod8 (e : Int)) 1 ++ (putL src.length 2 ++ srcB src)))))))) := by
  refine Gives.of ?_
  have hH := Hp.refl w
  have oG := adL_ok g
  have fb := fun w => rbytes08 (w := w) g
  have hbl := bytesA_le g
  have hsl := srcB_le src
  have c1 := cod8_le (r : Int)
  have c2 := cod8_le (e : Int)
  have HLS := Lib.hid (fun W (hb : Below w.heap.size w W) => rlist_any (c := sc) hl (h.below hb))
  have f1 : ∀ w, Gives Tryz.prog 94 #[.int .i64 (r : Int)] w (.int .i64 (cod8 (r : Int) : Int)) := fun w => rCode8_any (cod8_is (r : Int)) ⟨by omega, by omega⟩
  have f2 : ∀ w, Gives Tryz.prog 94 #[.int .i64 (e : Int)] w (.int .i64 (cod8 (e : Int) : Int)) := fun w => rCode8_any (cod8_is (e : Int)) ⟨by omega, by omega⟩
  have p1 : ∀ w, Gives Tryz.prog 95 #[.int .i64 (cod8 (e : Int) : Int), .int .i64 1] w (.string (str (putL (cod8 (e : Int)) 1))) := fun w => rnum08 (k := 1) (by omega) (by omega)
  have p2 : ∀ w, Gives Tryz.prog 95 #[.int .i64 ((b + (if q then 8 else 0) : Nat) : Int), .int .i64 1] w (.string (str (putL (b + (if q then 8 else 0)) 1))) := fun w => rnum08 (k := 1) (by split <;> omega) (by omega)
  have p3 : ∀ w, Gives Tryz.prog 95 #[.int .i64 (src.length : Int), .int .i64 2] w (.string (str (putL src.length 2))) := fun w => rnum08 (k := 2) (by omega) (by omega)
  obtain ⟨RQ, hRQ⟩ : ∃ x, x = (bytesA g.v g.b ++ (putL (b + (if q then 8 else 0)) 1 ++ (putL (cod8 (e : Int)) 1 ++ (putL src.length 2 ++ srcB src)))) := ⟨_, rfl⟩
  have hRl : RQ.length ≤ 20000 := by rw [hRQ]; simp only [List.length_append, putL_length]; omega
  rw [← hRQ]
  have t1 : ∀ w, Gives Tryz.prog 95 #[.int .i64 (17 : Int), .int .i64 1] w (.string (str (putL 17 1))) := fun w => rnum08 (n := 17) (k := 1) (by omega) (by omega)
  have t2 : ∀ w, Gives Tryz.prog 95 #[.int .i64 ((cod8 (r : Int)) : Int), .int .i64 1] w (.string (str (putL (cod8 (r : Int)) 1))) := fun w => rnum08 (n := (cod8 (r : Int))) (k := 1) (by omega) (by omega)
  have hfl := foldN_le (wsum ((putL 17 1 ++ putL (cod8 (r : Int)) 1) ++ RQ))
  have t3 : ∀ w, Gives Tryz.prog 58 #[.string (str (putL 17 1) ++ str (putL (cod8 (r : Int)) 1) ++ str (RQ))] w (.int .i64 (foldN (wsum ((putL 17 1 ++ putL (cod8 (r : Int)) 1) ++ RQ)) : Int)) := fun w => by
    have h := rSum_any (s := str (putL 17 1) ++ str (putL (cod8 (r : Int)) 1) ++ str (RQ)) (w := w) (by simp only [ByteArray.size_append, str_size, putL_length]; omega)
    have e : (str (putL 17 1) ++ str (putL (cod8 (r : Int)) 1) ++ str (RQ)).data.toList = (putL 17 1 ++ putL (cod8 (r : Int)) 1) ++ RQ := by simp [str]
    rwa [e] at h
  have t4 : ∀ w, Gives Tryz.prog 95 #[.int .i64 (65535 - (foldN (wsum ((putL 17 1 ++ putL (cod8 (r : Int)) 1) ++ RQ)) : Int)), .int .i64 2] w (.string (str (putL (65535 - foldN (wsum ((putL 17 1 ++ putL (cod8 (r : Int)) 1) ++ RQ))) 2))) := fun w => by
    have h := rnum08 (w := w) (n := 65535 - foldN (wsum ((putL 17 1 ++ putL (cod8 (r : Int)) 1) ++ RQ))) (k := 2) (by omega) (by omega)
    rwa [show ((65535 - foldN (wsum ((putL 17 1 ++ putL (cod8 (r : Int)) 1) ++ RQ)) : Nat) : Int) = 65535 - (foldN (wsum ((putL 17 1 ++ putL (cod8 (r : Int)) 1) ++ RQ)) : Int) by omega] at h
  have HW := Lib.hid (show str (putL 17 1) ++ str (putL (cod8 (r : Int)) 1) ++ str (putL (65535 - foldN (wsum ((putL 17 1 ++ putL (cod8 (r : Int)) 1) ++ RQ))) 2) ++ str (RQ) = str ((putL 17 1 ++ putL (cod8 (r : Int)) 1) ++ (putL (65535 - foldN (wsum ((putL 17 1 ++ putL (cod8 (r : Int)) 1) ++ RQ))) 2 ++ RQ)) by simp only [str_append, List.append_assoc])
  rw [← HW.out]
  clear HW
  have z1 := str_size (putL 17 1)
  have z2 := str_size (putL (cod8 (r : Int)) 1)
  have z3 := str_size (putL (65535 - foldN (wsum ((putL 17 1 ++ putL (cod8 (r : Int)) 1) ++ RQ))) 2)
  rw [putL_length] at z1 z2 z3
  generalize foldN (wsum ((putL 17 1 ++ putL (cod8 (r : Int)) 1) ++ RQ)) = fl at *
  generalize str (putL (65535 - fl) 2) = u3 at *
  have HE := Lib.hid (show str (bytesA g.v g.b) ++ str (putL (b + (if q then 8 else 0)) 1) ++ str (putL (cod8 (e : Int)) 1) ++ str (putL src.length 2) ++ str (srcB src) = str RQ by rw [hRQ]; simp only [str_append, List.append_assoc])
  have m1 := str_size (putL (b + (if q then 8 else 0)) 1)
  have m2 := str_size (putL (cod8 (e : Int)) 1)
  have m3 := str_size (putL src.length 2)
  have m4 : (str (bytesA g.v g.b)).size ≤ 16 := by rw [str_size]; exact bytesA_le g
  have m5 : (str (srcB src)).size ≤ 16000 := by rw [str_size]; omega
  rw [putL_length] at m1 m2 m3
  clear h hRQ hRl
  rw [← HE.out] at t3 ⊢
  clear HE
  generalize str (bytesA g.v g.b) = s1 at *
  generalize str (putL (b + (if q then 8 else 0)) 1) = s2 at *
  generalize str (putL (cod8 (e : Int)) 1) = s3 at *
  generalize str (putL src.length 2) = s4 at *
  generalize str (srcB src) = s5 at *
  generalize str (putL 17 1) = s6 at *
  generalize str (putL (cod8 (r : Int)) 1) = s7 at *
  generalize adL g = G at *
  generalize cod8 (r : Int) = cr at *
  generalize cod8 (e : Int) = ce at *
  cases q
  · simp only [Bool.false_eq_true, if_false, Nat.add_zero] at p2
    go_enter Tryz.func43, Tryz.ntmps43
    go_wp2_with (refine st ?_; clear hH; first | intro W g hH | intro W hH)
    (refine rq ?_; clear hH; intro W hH)
    go_wp2_with (refine st ?_; clear hH; first | intro W g hH | intro W hH)
    ((with_reducible refine regQ hH (by kernel_rfl) (by kernel_rfl) ?_); intro hne; (repeat (first | (go_big_quiet_want; (first | (refine qiL tab_ok rfl rfl ?_; refine ⟨_, _, rfl, rfl, ?_⟩) | (refine qiLi tab_ok rfl rfl ?_; refine ⟨_, _, _, ?_, rfl, rfl, rfl, ?_, ?_⟩; rotate_left; (focus assumption)) | (refine qBd tab_ok rfl rfl rfl rfl ?_; refine ⟨?_, ?_, ?_⟩; rotate_left; (focus (repeat (first | exact BR.nil | refine BR.one rfl rfl rfl ?_ | (refine BR.row rfl rfl rfl rfl ?_ ?_; (focus (repeat (first | exact trivial | assumption | exact OkA.z (by kernel_rfl) (by kernel_rfl) | refine ⟨rfl, ?_⟩ | refine ⟨?_, ?_⟩))))))))); (try simp only [Act.put, pA, pB, pC]); go_big_quiet_on) | go_big_quiet_step (((with_reducible apply callQ); first | (with_reducible exact f2 _) | (with_reducible exact p1 _) | (with_reducible exact p2 _) | (with_reducible exact p3 _) | (exact HLS.out _ (HW.hp _).below))))); refine wpQuiet_nil ?_; clear hne hH; intro W hH)
    go_wp2_with (refine st ?_; clear hH; first | intro W g hH | intro W hH)
    go_ret
    exact ⟨rfl, hH.below⟩
  · simp only [if_true] at p2
    have e8 : (b : Int) + 8 = ((b + 8 : Nat) : Int) := by push_cast; rfl
    rw [← e8] at p2
    clear e8
    go_enter Tryz.func43, Tryz.ntmps43
    go_wp2_with (refine st ?_; clear hH; first | intro W g hH | intro W hH)
    (refine rq ?_; clear hH; intro W hH)
    go_wp2_with (refine st ?_; clear hH; first | intro W g hH | intro W hH)
    ((with_reducible refine regQ hH (by kernel_rfl) (by kernel_rfl) ?_); intro hne; (repeat (first | (go_big_quiet_want; (first | (refine qiL tab_ok rfl rfl ?_; refine ⟨_, _, rfl, rfl, ?_⟩) | (refine qiLi tab_ok rfl rfl ?_; refine ⟨_, _, _, ?_, rfl, rfl, rfl, ?_, ?_⟩; rotate_left; (focus assumption)) | (refine qBd tab_ok rfl rfl rfl rfl ?_; refine ⟨?_, ?_, ?_⟩; rotate_left; (focus (repeat (first | exact BR.nil | refine BR.one rfl rfl rfl ?_ | (refine BR.row rfl rfl rfl rfl ?_ ?_; (focus (repeat (first | exact trivial | assumption | exact OkA.z (by kernel_rfl) (by kernel_rfl) | refine ⟨rfl, ?_⟩ | refine ⟨?_, ?_⟩))))))))); (try simp only [Act.put, pA, pB, pC]); go_big_quiet_on) | go_big_quiet_step (((with_reducible apply callQ); first | (with_reducible exact f2 _) | (with_reducible exact p1 _) | (with_reducible exact p2 _) | (with_reducible exact p3 _) | (exact HLS.out _ (HW.hp _).below))))); refine wpQuiet_nil ?_; clear hne hH; intro W hH)
    go_wp2_with (refine st ?_; clear hH; first | intro W g hH | intro W hH)
    go_ret
    exact ⟨rfl, hH.below⟩
set_option maxHeartbeats 4000000 in
theorem rwrite_r3 {g : Ad} {q : Bool} {rob ev : Int} {n : Nat} {R : List Rc} (hR : R.all rcOk4 = true) (hl : R.length < 1000) (h : RcsAt w rp R) : Gives Tryz.prog 43 #[.agg (fls [.one (.bool false), .one (.int .i64 3), .one (.int .i64 2), .one (.int .i64 0), .many (adL g) 17, .one (.bool q), .one (.int .i64 rob), .one (.int .i64 ev), .one (.slice sp n sc), .one (.slice rp R.length rc)]).toArray] w (.string (str ((putL 34 1 ++ putL 0 1) ++ (putL (65535 - foldN (wsum ((putL 34 1 ++ putL 0 1) ++ (putL R.length 4 ++ recsB R)))) 2 ++ (putL R.length 4 ++ recsB R))))) := by
  refine Gives.of ?_
  have hH := Hp.refl w
  have oG := adL_ok g
  have HA := Lib.hid h
  have hrl := recsB_len hR
  have hrl2 := recN_le (k := 8) (s := 4) rcOk4_len R hR
  have hrl3 : R.length * (8 + 4 * 64) ≤ 1000 * (8 + 4 * 64) := Nat.mul_le_mul_right _ (by omega)
  have HR := Lib.hid hR
  clear h hR
  have fb := fun w => rbytes08 (w := w) g
  have p2 : ∀ w, Gives Tryz.prog 95 #[.int .i64 (R.length : Int), .int .i64 4] w (.string (str (putL R.length 4))) := fun w => rnum08 (k := 4) (by omega) (by omega)
  obtain ⟨RQ, hRQ⟩ : ∃ x, x = putL R.length 4 ++ recsB R := ⟨_, rfl⟩
  have hRl : RQ.length ≤ 300000 := by rw [hRQ]; simp only [List.length_append, putL_length]; omega
  rw [← hRQ]
  have t1 : ∀ w, Gives Tryz.prog 95 #[.int .i64 (34 : Int), .int .i64 1] w (.string (str (putL 34 1))) := fun w => rnum08 (n := 34) (k := 1) (by omega) (by omega)
  have t2 : ∀ w, Gives Tryz.prog 95 #[.int .i64 (0 : Int), .int .i64 1] w (.string (str (putL 0 1))) := fun w => rnum08 (n := 0) (k := 1) (by omega) (by omega)
  have hfl := foldN_le (wsum ((putL 34 1 ++ putL 0 1) ++ RQ))
  have t3 : ∀ w, Gives Tryz.prog 58 #[.string (str (putL 34 1) ++ str (putL 0 1) ++ str (RQ))] w (.int .i64 (foldN (wsum ((putL 34 1 ++ putL 0 1) ++ RQ)) : Int)) := fun w => by
    have h := rSum_any (s := str (putL 34 1) ++ str (putL 0 1) ++ str (RQ)) (w := w) (by simp only [ByteArray.size_append, str_size, putL_length]; omega)
    have e : (str (putL 34 1) ++ str (putL 0 1) ++ str (RQ)).data.toList = (putL 34 1 ++ putL 0 1) ++ RQ := by simp [str]
    rwa [e] at h
  have t4 : ∀ w, Gives Tryz.prog 95 #[.int .i64 (65535 - (foldN (wsum ((putL 34 1 ++ putL 0 1) ++ RQ)) : Int)), .int .i64 2] w (.string (str (putL (65535 - foldN (wsum ((putL 34 1 ++ putL 0 1) ++ RQ))) 2))) := fun w => by
    have h := rnum08 (w := w) (n := 65535 - foldN (wsum ((putL 34 1 ++ putL 0 1) ++ RQ))) (k := 2) (by omega) (by omega)
    rwa [show ((65535 - foldN (wsum ((putL 34 1 ++ putL 0 1) ++ RQ)) : Nat) : Int) = 65535 - (foldN (wsum ((putL 34 1 ++ putL 0 1) ++ RQ)) : Int) by omega] at h
  have HW := Lib.hid (show str (putL 34 1) ++ str (putL 0 1) ++ str (putL (65535 - foldN (wsum ((putL 34 1 ++ putL 0 1) ++ RQ))) 2) ++ str (RQ) = str ((putL 34 1 ++ putL 0 1) ++ (putL (65535 - foldN (wsum ((putL 34 1 ++ putL 0 1) ++ RQ))) 2 ++ RQ)) by simp only [str_append, List.append_assoc])
  rw [← HW.out]
  clear HW
  have z1 := str_size (putL 34 1)
  have z2 := str_size (putL 0 1)
  have z3 := str_size (putL (65535 - foldN (wsum ((putL 34 1 ++ putL 0 1) ++ RQ))) 2)
  rw [putL_length] at z1 z2 z3
  generalize foldN (wsum ((putL 34 1 ++ putL 0 1) ++ RQ)) = fl at *
  generalize str (putL (65535 - fl) 2) = u3 at *
  have m2 := str_size (putL R.length 4)
  rw [putL_length] at m2
  have HQ := Lib.hid (show str (putL R.length 4) ++ str (recsB R) = str RQ by rw [hRQ, str_append])
  have HZ := Lib.hid (show ∀ (S0 : ByteArray) (X : List UInt8) (r : Rc), S0 ++ str X ++ str (putL r.kind.toNat 1) ++ ⟨#[0]⟩ ++ str (putL r.src.length 2) ++ str (bytesA r.grp.v r.grp.b) ++ str (srcB r.src) = S0 ++ str (X ++ recB r) from fun S0 X r => by
    have e0 : (⟨#[0]⟩ : ByteArray) = str (putL 0 1) := by kernel_rfl
    rw [e0]
    unfold recB
    simp only [str_append, List.append_assoc, ByteArray.append_assoc])
  clear hRQ hRl hrl hrl2 hrl3
  have T3 := Lib.hid t3
  clear t3
  have m8 : (str RQ).size = (str RQ).size := rfl
  clear m8
  generalize str (bytesA g.v g.b) = bb at *
  generalize str (putL R.length 4) = s2 at *
  generalize str (putL 34 1) = s6 at *
  generalize str (putL 0 1) = s7 at *
  generalize adL g = G at *
  go_enter Tryz.func43, Tryz.ntmps43
  go_wp2_with (refine st ?_; clear hH; first | intro W g hH | intro W hH)
  (refine rq ?_; clear hH; intro W hH)
  go_wp2_with (refine st ?_; clear hH; first | intro W g hH | intro W hH)
  clear p2 fb
  go_loopw [5, 6] (fun s i wr => ∃ (j : Nat) (S : ByteArray), i = .int .i64 (j : Int) ∧ j ≤ R.length ∧ s = .string S ∧ Hid (S = s2 ++ str (recsB (R.take j))) ∧ S.size ≤ 4 + 1100 * j ∧ Hp w.heap.size w wr [(_, 29, true, [.one (.bool false), .one (.int .i64 3), .one (.int .i64 2), .one (.int .i64 0), .many G 17, .one (.bool q), .one (.int .i64 rob), .one (.int .i64 ev), .one (.slice sp n sc), .one (.slice rp R.length rc)])]) (fun _ i _ => R.length - (intOf i).toNat)
  case atStart => exact ⟨0, s2, rfl, by omega, rfl, Lib.hid (data_inj (by simp [recsB, str])), by omega, hH⟩
  case round =>
    clear hH
    obtain ⟨j, S, rfl, hj, rfl, hS, hm, hH⟩ := hrel
    by_cases hjl : j < R.length
    · obtain ⟨q0, s0, c0, hq, _, _, _, fA, fR⟩ := HA.out.get hjl
      subst hq
      have dj : decide ((j : Int) < (R.length : Int)) = true := decide_eq_true (by omega)
      obtain ⟨k1, k2, k3, k4⟩ := rcOk4_all (List.all_eq_true.1 HR.out _ (List.getElem_mem hjl))
      obtain ⟨_, hsl⟩ := srcs4_all k4
      have hN := Lib.hid (show S ++ str (putL R[j].kind.toNat 1) ++ ⟨#[0]⟩ ++ str (putL R[j].src.length 2) ++ str (bytesA R[j].grp.v R[j].grp.b) ++ str (srcB R[j].src) = s2 ++ str (recsB (R.take (j + 1))) by rw [hS.out, HZ.out, recsB_snoc hjl])
      clear HZ hS HR HA HQ T3 t1 t2 t4 k3 k4
      generalize R[j] = r at *
      obtain ⟨kd, gr, src⟩ := r
      simp only at k1 k2 hsl fA fR hN
      obtain ⟨kn, rfl⟩ : ∃ k : Nat, kd = (k : Int) := ⟨kd.toNat, by omega⟩
      rw [Int.toNat_natCast] at hN
      have oY := adL_ok gr
      have p4 : ∀ w, Gives Tryz.prog 95 #[.int .i64 (kn : Int), .int .i64 1] w (.string (str (putL kn 1))) := fun w => rnum08 (k := 1) (by omega) (by omega)
      have p5 : ∀ w, Gives Tryz.prog 95 #[.int .i64 (src.length : Int), .int .i64 2] w (.string (str (putL src.length 2))) := fun w => rnum08 (k := 2) (by omega) (by omega)
      have fb := fun w => rbytes08 (w := w) gr
      have HLS := Lib.hid (fun W (hb : Below w.heap.size w W) => rlist_any (c := c0) (show src.length ≤ 1000 by omega) (fA.below hb))
      have m4 := str_size (putL kn 1)
      have m5 := str_size (putL src.length 2)
      have m6 : (str (bytesA gr.v gr.b)).size ≤ 16 := by rw [str_size]; exact bytesA_le gr
      have m7 : (str (srcB src)).size ≤ 1024 := by rw [str_size]; have := srcB_le src; omega
      rw [putL_length] at m4 m5
      have mz : (⟨#[0]⟩ : ByteArray).size = 1 := rfl
      generalize str (bytesA gr.v gr.b) = t1 at *
      generalize str (putL kn 1) = t2 at *
      generalize str (putL src.length 2) = t3 at *
      generalize str (srcB src) = t4 at *
      generalize adL gr = Y at *
      go_wp2_with (first | ((refine gL rfl ?_; refine hLoR tab_ok rfl ?_ rfl hH rfl rfl ?_; (focus first|exact wN rfl|exact rfl); refine ⟨_, fR, ⟨rfl, oY, rfl, trivial⟩, rfl, ?_⟩; (clear hH; (first | intro W g hH | intro W hH); (try simp only [Act.put, pA, pB, pC])))) | (refine st ?_; clear hH; first | intro W g hH | intro W hH))
      ((with_reducible refine regQ hH (by kernel_rfl) (by kernel_rfl) ?_); intro hne; (repeat (first | (go_big_quiet_want; (first | (refine qiL tab_ok rfl rfl ?_; refine ⟨_, _, rfl, rfl, ?_⟩) | (refine qiLi tab_ok rfl rfl ?_; refine ⟨_, _, _, ?_, rfl, rfl, rfl, ?_, ?_⟩; rotate_left; (focus assumption)) | (refine qBd tab_ok rfl rfl rfl rfl ?_; refine ⟨?_, ?_, ?_⟩; rotate_left; (focus (repeat (first | exact BR.nil | refine BR.one rfl rfl rfl ?_ | (refine BR.row rfl rfl rfl rfl ?_ ?_; (focus (repeat (first | exact trivial | assumption | exact OkA.z (by kernel_rfl) (by kernel_rfl) | refine ⟨rfl, ?_⟩ | refine ⟨?_, ?_⟩))))))))); (try simp only [Act.put, pA, pB, pC]); go_big_quiet_on) | go_big_quiet_step (((with_reducible apply callQ); first | (with_reducible exact p4 _) | (with_reducible exact p5 _) | (with_reducible exact fb _) | (exact HLS.out _ (HW.hp _).below))))); refine wpQuiet_nil ?_; clear hne hH; intro W hH)
      go_wp2_with (refine st ?_; clear hH; first | intro W g hH | intro W hH)
      exact ⟨⟨j + 1, S ++ t2 ++ ⟨#[0]⟩ ++ t3 ++ t1 ++ t4, by simp, by omega, rfl, hN, by simp only [ByteArray.size_append]; omega, hH.sub (SubH.drop SubH.refl)⟩, by simp [intOf]; omega⟩
    · have hE := Lib.hid (show S = str RQ by rw [hS.out, List.take_of_length_le (by omega), HQ.out])
      have dj : decide ((j : Int) < (R.length : Int)) = false := decide_eq_false (by omega)
      have t3 := T3.out
      rw [← hE.out] at t3
      clear hS HA HR HZ HQ T3
      go_wp2_with (refine st ?_; clear hH; first | intro W g hH | intro W hH)
      go_ret
      rw [hE.out]
      exact ⟨rfl, hH.below⟩
theorem rWrite_any (hg : good4 T = true) (hI : inI T.resp ∧ inI T.every) (hA : AdsAt w sp T.src) (hR : RcsAt w rp T.recs) : Gives Tryz.prog 43 #[.agg (fls (tkS T sp sc rp rc)).toArray] w (.string (writeT T)) := by
  unfold inI at hI
  rcases good4_cases hg with rfl | ⟨r, g, rfl, r1, r2, hg⟩ | ⟨g, k, v, rfl, hg, hkv⟩ | ⟨R, rfl, hRR, hl⟩ | ⟨resp, g, q, rob, ev, src, rfl, h1, h2, h3, h4, h5, hg, h6⟩
  · have := rwrite_q (w := w) (sp := sp) (sc := sc) (rp := rp) (rc := rc) (g := Ad.z) (q := false) (rob := 0) (ev := 0) (ver := 1) (n := 0) (m := 0) (r := 0) (.inl rfl) (by omega)
    simpa [kindN, secN, restL, sumN, headL, writeT, tkS] using this
  · have := rwrite_q (w := w) (sp := sp) (sc := sc) (rp := rp) (rc := rc) (g := g) (q := false) (rob := 0) (ev := 0) (ver := 2) (n := 0) (m := 0) (r := r.toNat) (.inr rfl) (by omega)
    rw [Int.toNat_of_nonneg (by omega)] at this
    simpa [kindN, secN, restL, sumN, headL, writeT, tkS] using this
  · rcases hkv with ⟨rfl, rfl⟩ | ⟨rfl, rfl⟩ | ⟨rfl, rfl⟩
    · have := rwrite_r1 (w := w) (sp := sp) (sc := sc) (rp := rp) (rc := rc) (g := g) (q := false) (rob := 0) (ev := 0) (n := 0) (m := 0)
      simpa [kindN, secN, restL, sumN, headL, writeT, tkS] using this
    · have := rwrite_r2 (w := w) (sp := sp) (sc := sc) (rp := rp) (rc := rc) (g := g) (q := false) (rob := 0) (ev := 0) (n := 0) (m := 0)
      simpa [kindN, secN, restL, sumN, headL, writeT, tkS] using this
    · have := rwrite_l (w := w) (sp := sp) (sc := sc) (rp := rp) (rc := rc) (g := g) (q := false) (rob := 0) (ev := 0) (n := 0) (m := 0)
      simpa [kindN, secN, restL, sumN, headL, writeT, tkS] using this
  · have := rwrite_r3 (w := w) (sp := sp) (sc := sc) (rp := rp) (rc := rc) (g := Ad.z) (q := false) (rob := 0) (ev := 0) (n := 0) hRR (by omega) hR
    rw [putL4 (by omega)] at this
    simpa [kindN, secN, restL, sumN, headL, writeT, tkS] using this
  · obtain ⟨b, rfl⟩ : ∃ b : Nat, rob = (b : Int) := ⟨rob.toNat, by omega⟩
    obtain ⟨rn, rfl⟩ : ∃ b : Nat, resp = (b : Int) := ⟨resp.toNat, by unfold ex8 at h1; simp at h1; omega⟩
    obtain ⟨en, rfl⟩ : ∃ b : Nat, ev = (b : Int) := ⟨ev.toNat, by unfold ex8 at h2; simp at h2; omega⟩
    obtain ⟨_, hl⟩ := srcs4_all h5
    simp only at hI
    have := rwrite_q3 (w := w) (sp := sp) (sc := sc) (rp := rp) (rc := rc) (g := g) (q := q) (b := b) (r := rn) (e := en) (m := 0) (src := src) (by omega) (by omega) (by omega) (by omega) hA
    simpa [kindN, secN, restL, sumN, headL, writeT, flagN, tkS] using this
end
end Go.Proofs.YtdnehjhijmeihaaGreat
