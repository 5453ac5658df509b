/-
  Contracts of package ip4 and of its reference: what is written by the reference.
-/
import Derived.Test.YtcijplfamodjaaaIp4w
namespace Go.Proofs.Ytcijplfamodjaaa
open Go.ChangeShapes Go.WideShapes Go.ChangeAt Go.RowKit
set_option linter.unusedVariables false
set_option linter.unusedSimpArgs false

section
variable {w : World} {tos id ttl proto : Nat} {va vb al : Bool} {la lb : List UInt8} {b : ByteArray}
set_option maxRecDepth 100000 in
set_option maxHeartbeats 4000000 in
theorem rWrite4_any (ha : la.length = 16) (hb : lb.length = 16) (hbs : b.size ≤ 3000) (h1 : tos < 256) (h2 : id < 65536) (h3 : ttl < 256) (h4 : proto < 256) :
    Gives Try.prog 14 #[.agg (P4.L ⟨tos, id, ttl, proto, va, la, vb, lb, al, b⟩).toArray] w (.string (w4 al va vb la lb tos id ttl proto b)) := by
  refine Gives.of ?_
  have hp : ∀ (n k : Nat) w, n < 9223372036854775808 → k ≤ 8 → Gives Try.prog 30 #[.int .i64 (n : Int), .int .i64 (k : Int)] w (.string (str (putL n k))) := fun n k w h1 h2 => num4_any h1 h2
  have hu : (P4.mk tos id ttl proto va la vb lb al b).Ok := ⟨ha, hb⟩
  have fa : ∀ w, Gives Try.prog 31 #[.agg (addrV va la)] w (.string (str (bytesA va la))) := fun w => raBytes_any ha
  have fb : ∀ w, Gives Try.prog 31 #[.agg (addrV vb lb)] w (.string (str (bytesA vb lb))) := fun w => raBytes_any hb
  have za := Lib.hid (addrV_size (v := va) ha)
  have zb := Lib.hid (addrV_size (v := vb) hb)
  have hz := Lib.hid hu.size
  have c0 := P4.c0 (p := P4.mk tos id ttl proto va la vb lb al b)
  have c1 := P4.c1 (p := P4.mk tos id ttl proto va la vb lb al b)
  have c2 := P4.c2 (p := P4.mk tos id ttl proto va la vb lb al b)
  have c3 := P4.c3 (p := P4.mk tos id ttl proto va la vb lb al b)
  have c38 := hu.c38
  have c39 := hu.c39
  have pa := P4.pa (p := P4.mk tos id ttl proto va la vb lb al b)
  have pb := hu.pb
  simp only at c0 c1 c2 c3 c38 c39 pa pb
  have n1 := str_size (bytesA va la)
  have n2 := str_size (bytesA vb lb)
  have n3 := bytesA_le (v := va) ha
  have n4 := bytesA_le (v := vb) hb
  have p3 : ∀ w, Gives Try.prog 30 #[.int .i64 (tos : Int), .int .i64 1] w (.string (str (putL tos 1))) := fun w => hp tos 1 w (by omega) (by omega)
  have p4 : ∀ w, Gives Try.prog 30 #[.int .i64 (id : Int), .int .i64 2] w (.string (str (putL id 2))) := fun w => hp id 2 w (by omega) (by omega)
  have p5 : ∀ w, Gives Try.prog 30 #[.int .i64 0, .int .i64 2] w (.string (str (putL 0 2))) := fun w => hp 0 2 w (by omega) (by omega)
  have p6 : ∀ w, Gives Try.prog 30 #[.int .i64 (ttl : Int), .int .i64 1] w (.string (str (putL ttl 1))) := fun w => hp ttl 1 w (by omega) (by omega)
  have p7 : ∀ w, Gives Try.prog 30 #[.int .i64 (proto : Int), .int .i64 1] w (.string (str (putL proto 1))) := fun w => hp proto 1 w (by omega) (by omega)
  have m1 := str_size (putL tos 1)
  have m2 := str_size (putL id 2)
  have m3 := str_size (putL 0 2)
  have m4 := str_size (putL ttl 1)
  have m5 := str_size (putL proto 1)
  rw [putL_length] at m1 m2 m3 m4 m5
  cases al
  · have p1 : ∀ w, Gives Try.prog 30 #[.int .i64 69, .int .i64 1] w (.string (str (putL 69 1))) := fun w => hp 69 1 w (by omega) (by omega)
    have p2 : ∀ w, Gives Try.prog 30 #[.int .i64 (20 + (b.size : Int)), .int .i64 2] w (.string (str (putL (20 + b.size) 2))) := fun w => hp (20 + b.size) 2 w (by omega) (by omega)
    have m6 := str_size (putL 69 1)
    have m7 := str_size (putL (20 + b.size) 2)
    rw [putL_length] at m6 m7
    have HF := Lib.hid (show w4F false tos id ttl proto b.size = str (putL 69 1) ++ str (putL tos 1) ++ str (putL (20 + b.size) 2) ++ str (putL id 2) ++ str (putL 0 2) ++ str (putL ttl 1) ++ str (putL proto 1) by simp [w4F])
    have HB := Lib.hid (show w4B false va vb la lb = str (bytesA va la) ++ str (bytesA vb lb) ++ ⟨#[]⟩ by rw [w4B, if_neg (by decide)]; exact (ByteArray.append_empty).symm)
    have hch : ∀ w, Gives Try.prog 19 #[.string (w4F false tos id ttl proto b.size ++ w4B false va vb la lb)] w (.int .i64 (foldN (wsum (flat [w4F false tos id ttl proto b.size, w4B false va vb la lb])) : Int)) := fun w => by
      have e1 : (w4F false tos id ttl proto b.size).size ≤ 1000 := by rw [HF.out]; simp only [ByteArray.size_append, m1, m2, m3, m4, m5, m6, m7]; omega
      have e2 : (w4B false va vb la lb).size ≤ 1000 := by rw [HB.out]; simp only [ByteArray.size_append, n1, n2]; (try rw [show (⟨#[]⟩ : ByteArray).size = 0 from rfl]); omega
      have h := rSum_any (s := w4F false tos id ttl proto b.size ++ w4B false va vb la lb) (w := w) (by rw [ByteArray.size_append]; omega)
      rw [show (w4F false tos id ttl proto b.size ++ w4B false va vb la lb).data.toList = flat [w4F false tos id ttl proto b.size, w4B false va vb la lb] by simp [flat]] at h
      exact h
    rw [HF.out, HB.out] at hch
    have hch8 : ∀ w, Gives Try.prog 30 #[.int .i64 ((65535 - foldN (wsum (flat [w4F false tos id ttl proto b.size, w4B false va vb la lb])) : Nat) : Int), .int .i64 2] w (.string (str (putL (65535 - foldN (wsum (flat [w4F false tos id ttl proto b.size, w4B false va vb la lb]))) 2))) := fun w => hp _ 2 w (by omega) (by omega)
    have HW := Lib.hid (show w4 false va vb la lb tos id ttl proto b = w4F false tos id ttl proto b.size ++ str (putL (65535 - foldN (wsum (flat [w4F false tos id ttl proto b.size, w4B false va vb la lb]))) 2) ++ w4B false va vb la lb ++ b by rfl)
    rw [HF.out, HB.out] at HW hch8
    have hfl := foldN_le (wsum (flat [str (putL 69 1) ++ str (putL tos 1) ++ str (putL (20 + b.size) 2) ++ str (putL id 2) ++ str (putL 0 2) ++ str (putL ttl 1) ++ str (putL proto 1), str (bytesA va la) ++ str (bytesA vb lb) ++ ⟨#[]⟩]))
    generalize foldN (wsum (flat [str (putL 69 1) ++ str (putL tos 1) ++ str (putL (20 + b.size) 2) ++ str (putL id 2) ++ str (putL 0 2) ++ str (putL ttl 1) ++ str (putL proto 1), str (bytesA va la) ++ str (bytesA vb lb) ++ ⟨#[]⟩])) = fo at *
    obtain ⟨ck, hck⟩ : ∃ ck : Nat, 65535 - fo = ck := ⟨_, rfl⟩
    have hck2 : ck ≤ 65535 := by omega
    have hckI : 65535 - (fo : Int) = (ck : Int) := by omega
    rw [hck] at HW hch8
    skip
    have m8 := str_size (putL ck 2)
    rw [putL_length] at m8
    rw [HW.out]
    clear HW HF HB hp hck
    generalize str (putL 69 1) = q1 at *
    generalize str (putL (20 + b.size) 2) = q2 at *
    generalize str (putL tos 1) = q3 at *
    generalize str (putL id 2) = q4 at *
    generalize str (putL 0 2) = q5 at *
    generalize str (putL ttl 1) = q6 at *
    generalize str (putL proto 1) = q7 at *
    generalize str (putL ck 2) = q8 at *
    generalize str (bytesA va la) = s1 at *
    generalize str (bytesA vb lb) = s2 at *
    generalize addrV va la = A at *
    generalize addrV vb lb = B at *
    generalize P4.L ⟨tos, id, ttl, proto, va, la, vb, lb, false, b⟩ = L at *
    clear hu
    go_enter Try.func14, Try.ntmps14
    go_wp2
    ((with_reducible first | refine wp_region_bx (Nat.le_refl _) (by kernel_rfl) (by kernel_rfl) ?_ | refine wp_region_bw (by kernel_rfl) (by kernel_rfl) ?_); (repeat (go_big_quiet_step (((with_reducible apply Gives.bw (Nat.le_refl _)); first | (with_reducible exact p1 _) | (with_reducible exact p2 _) | (with_reducible exact p3 _) | (with_reducible exact p4 _) | (with_reducible exact p5 _) | (with_reducible exact p6 _) | (with_reducible exact p7 _))))); refine wpQuiet_nil ?_; rintro _ ⟨x, rfl⟩)
    go_wp2
    ((with_reducible first | refine wp_region_bx (Nat.le_refl _) (by kernel_rfl) (by kernel_rfl) ?_ | refine wp_region_bw (by kernel_rfl) (by kernel_rfl) ?_); (repeat (first | (go_big_quiet_want; refine quiet_loadP 25 rfl rfl Try.underlying25 rfl ?_; refine ⟨?_, ?_, ?_, ?_, ?_, ?_, ?_, ?_⟩; rotate_left 3; (focus (first | omega | (simp; done) | (simp; omega) | ((repeat (first | omega | (simp; done) | refine lt_alloc ?_ | refine BW.lt_of ?_ | refine lt_set ?_ | refine lt_setA ?_ | refine lt_drew ?_ | refine lt_drewN ?_)); done) | (refine Nat.ne_of_lt ?_; ((repeat (first | omega | (simp; done) | refine lt_alloc ?_ | refine BW.lt_of ?_ | refine lt_set ?_ | refine lt_setA ?_ | refine lt_drew ?_ | refine lt_drewN ?_)); done)) | (refine Nat.ne_of_gt ?_; ((repeat (first | omega | (simp; done) | refine lt_alloc ?_ | refine BW.lt_of ?_ | refine lt_set ?_ | refine lt_setA ?_ | refine lt_drew ?_ | refine lt_drewN ?_)); done)))); (focus ((repeat (first | with_reducible assumption | (with_reducible refine Row.newAt ?_; focus (first | with_reducible rfl | (simp; done))) | with_reducible refine Row.alloc ?_ _ | with_reducible refine Row.drew ?_ | focus (with_reducible refine Row.bw ?_ ?_; rotate_left; focus ((first | omega | (simp; done) | (simp; omega) | ((repeat (first | omega | (simp; done) | refine lt_alloc ?_ | refine BW.lt_of ?_ | refine lt_set ?_ | refine lt_setA ?_ | refine lt_drew ?_ | refine lt_drewN ?_)); done) | (refine Nat.ne_of_lt ?_; ((repeat (first | omega | (simp; done) | refine lt_alloc ?_ | refine BW.lt_of ?_ | refine lt_set ?_ | refine lt_setA ?_ | refine lt_drew ?_ | refine lt_drewN ?_)); done)) | (refine Nat.ne_of_gt ?_; ((repeat (first | omega | (simp; done) | refine lt_alloc ?_ | refine BW.lt_of ?_ | refine lt_set ?_ | refine lt_setA ?_ | refine lt_drew ?_ | refine lt_drewN ?_)); done))))) | focus (with_reducible refine Row.far ?_ ?_ _; rotate_left; focus ((first | omega | (simp; done) | (simp; omega) | ((repeat (first | omega | (simp; done) | refine lt_alloc ?_ | refine BW.lt_of ?_ | refine lt_set ?_ | refine lt_setA ?_ | refine lt_drew ?_ | refine lt_drewN ?_)); done) | (refine Nat.ne_of_lt ?_; ((repeat (first | omega | (simp; done) | refine lt_alloc ?_ | refine BW.lt_of ?_ | refine lt_set ?_ | refine lt_setA ?_ | refine lt_drew ?_ | refine lt_drewN ?_)); done)) | (refine Nat.ne_of_gt ?_; ((repeat (first | omega | (simp; done) | refine lt_alloc ?_ | refine BW.lt_of ?_ | refine lt_set ?_ | refine lt_setA ?_ | refine lt_drew ?_ | refine lt_drewN ?_)); done))))) | focus (with_reducible refine Row.set (cs := ?_) ?_ _ _; rotate_left) | focus (with_reducible refine Row.farAll ?_ ?_ _; rotate_left; focus ((first | omega | (simp; done) | (simp; omega) | ((repeat (first | omega | (simp; done) | refine lt_alloc ?_ | refine BW.lt_of ?_ | refine lt_set ?_ | refine lt_setA ?_ | refine lt_drew ?_ | refine lt_drewN ?_)); done) | (refine Nat.ne_of_lt ?_; ((repeat (first | omega | (simp; done) | refine lt_alloc ?_ | refine BW.lt_of ?_ | refine lt_set ?_ | refine lt_setA ?_ | refine lt_drew ?_ | refine lt_drewN ?_)); done)) | (refine Nat.ne_of_gt ?_; ((repeat (first | omega | (simp; done) | refine lt_alloc ?_ | refine BW.lt_of ?_ | refine lt_set ?_ | refine lt_setA ?_ | refine lt_drew ?_ | refine lt_drewN ?_)); done))))) | focus (with_reducible refine Row.setAll (cs := ?_) ?_ ?_; rotate_left) | focus (with_reducible refine Row.farSet ?_ ?_ _ _; rotate_left; focus ((first | omega | (simp; done) | (simp; omega) | ((repeat (first | omega | (simp; done) | refine lt_alloc ?_ | refine BW.lt_of ?_ | refine lt_set ?_ | refine lt_setA ?_ | refine lt_drew ?_ | refine lt_drewN ?_)); done) | (refine Nat.ne_of_lt ?_; ((repeat (first | omega | (simp; done) | refine lt_alloc ?_ | refine BW.lt_of ?_ | refine lt_set ?_ | refine lt_setA ?_ | refine lt_drew ?_ | refine lt_drewN ?_)); done)) | (refine Nat.ne_of_gt ?_; ((repeat (first | omega | (simp; done) | refine lt_alloc ?_ | refine BW.lt_of ?_ | refine lt_set ?_ | refine lt_setA ?_ | refine lt_drew ?_ | refine lt_drewN ?_)); done))))) | focus (with_reducible refine Row.setAt (cs := ?_) ?_ ?_; rotate_left))); (try all_goals (done)); done)); (focus (with_reducible assumption)); (focus (first | rfl | (simp only [Array.size_setIfInBounds, List.size_toArray, List.length_set, za.out, zb.out]; first | done | rfl | kernel_rfl))); go_simp; go_big_quiet_on) | go_big_quiet_step (((with_reducible apply Gives.bw (Nat.le_refl _)); first | (with_reducible exact fa _) | (with_reducible exact fb _))))); refine wpQuiet_nil ?_; rintro _ ⟨x, rfl⟩)
    go_wp2
    ((with_reducible first | refine wp_region_bx (Nat.le_refl _) (by kernel_rfl) (by kernel_rfl) ?_ | refine wp_region_bw (by kernel_rfl) (by kernel_rfl) ?_); (repeat (go_big_quiet_step (((with_reducible apply Gives.bw (Nat.le_refl _)); first | (with_reducible exact hch _) | (with_reducible exact hch8 _))))); refine wpQuiet_nil ?_; rintro _ ⟨x, rfl⟩)
    go_wp2
    go_ret
    exact ⟨rfl, by (first | ((repeat (with_reducible first | assumption | exact Below.refl _ _ | (refine below_bw _ ?_ ?_; rotate_left; focus (((repeat (with_reducible first | assumption | exact Nat.le_refl _ | refine BW.le_of ?_ | refine le_alloc ?_ | refine le_drew ?_ | refine le_drewN ?_ | refine le_set ?_ | refine le_plus ?_ | omega | refine le_setA ?_)); done))) | (refine Below.alloc ?_ ?_ _; rotate_left; focus (((repeat (with_reducible first | assumption | exact Nat.le_refl _ | refine BW.le_of ?_ | refine le_alloc ?_ | refine le_drew ?_ | refine le_drewN ?_ | refine le_set ?_ | refine le_plus ?_ | omega | refine le_setA ?_)); done))) | (refine Below.setCell ?_ ?_ _; rotate_left; focus (((repeat (with_reducible first | assumption | exact Nat.le_refl _ | refine BW.le_of ?_ | refine le_alloc ?_ | refine le_drew ?_ | refine le_drewN ?_ | refine le_set ?_ | refine le_plus ?_ | omega | refine le_setA ?_)); done))) | refine Below.drew ?_ | refine below_drewN ?_ _ | (refine below_setCells ?_ ?_ _ _; rotate_left; focus (((repeat (with_reducible first | assumption | exact Nat.le_refl _ | refine BW.le_of ?_ | refine le_alloc ?_ | refine le_drew ?_ | refine le_drewN ?_ | refine le_set ?_ | refine le_plus ?_ | omega | refine le_setA ?_)); done))))); done) | (simp; done) | (repeat (first | assumption | exact Below.refl _ _ | (refine below_bw _ ?_ ?_; rotate_left; focus ((first | omega | (repeat (first | with_reducible assumption | with_reducible exact Nat.le_refl _ | refine BW.le_of ?_ | refine le_alloc ?_ | refine le_drew ?_ | refine le_drewN ?_ | refine le_set ?_ | refine le_plus ?_ | assumption | exact Nat.le_refl _))))) | (refine Below.alloc ?_ ?_ _; rotate_left; focus ((first | omega | (repeat (first | with_reducible assumption | with_reducible exact Nat.le_refl _ | refine BW.le_of ?_ | refine le_alloc ?_ | refine le_drew ?_ | refine le_drewN ?_ | refine le_set ?_ | refine le_plus ?_ | assumption | exact Nat.le_refl _))))) | (refine Below.setCell ?_ ?_ _; rotate_left; focus ((first | omega | (repeat (first | with_reducible assumption | with_reducible exact Nat.le_refl _ | refine BW.le_of ?_ | refine le_alloc ?_ | refine le_drew ?_ | refine le_drewN ?_ | refine le_set ?_ | refine le_plus ?_ | assumption | exact Nat.le_refl _))))) | refine Below.drew ?_ | refine below_drewN ?_ _ | (refine below_setCells ?_ ?_ _ _; rotate_left; focus ((first | omega | (repeat (first | with_reducible assumption | with_reducible exact Nat.le_refl _ | refine BW.le_of ?_ | refine le_alloc ?_ | refine le_drew ?_ | refine le_drewN ?_ | refine le_set ?_ | refine le_plus ?_ | assumption | exact Nat.le_refl _))))))))⟩
  · have p1 : ∀ w, Gives Try.prog 30 #[.int .i64 70, .int .i64 1] w (.string (str (putL 70 1))) := fun w => hp 70 1 w (by omega) (by omega)
    have p2 : ∀ w, Gives Try.prog 30 #[.int .i64 (24 + (b.size : Int)), .int .i64 2] w (.string (str (putL (24 + b.size) 2))) := fun w => hp (24 + b.size) 2 w (by omega) (by omega)
    have m6 := str_size (putL 70 1)
    have m7 := str_size (putL (24 + b.size) 2)
    rw [putL_length] at m6 m7
    have HF := Lib.hid (show w4F true tos id ttl proto b.size = str (putL 70 1) ++ str (putL tos 1) ++ str (putL (24 + b.size) 2) ++ str (putL id 2) ++ str (putL 0 2) ++ str (putL ttl 1) ++ str (putL proto 1) by simp [w4F])
    have HB := Lib.hid (show w4B true va vb la lb = str (bytesA va la) ++ str (bytesA vb lb) ++ ⟨#[148, 4, 0, 0]⟩ by simp [w4B])
    have hch : ∀ w, Gives Try.prog 19 #[.string (w4F true tos id ttl proto b.size ++ w4B true va vb la lb)] w (.int .i64 (foldN (wsum (flat [w4F true tos id ttl proto b.size, w4B true va vb la lb])) : Int)) := fun w => by
      have e1 : (w4F true tos id ttl proto b.size).size ≤ 1000 := by rw [HF.out]; simp only [ByteArray.size_append, m1, m2, m3, m4, m5, m6, m7]; omega
      have e2 : (w4B true va vb la lb).size ≤ 1000 := by rw [HB.out]; simp only [ByteArray.size_append, n1, n2]; (try rw [show (⟨#[148, 4, 0, 0]⟩ : ByteArray).size = 4 from rfl]); omega
      have h := rSum_any (s := w4F true tos id ttl proto b.size ++ w4B true va vb la lb) (w := w) (by rw [ByteArray.size_append]; omega)
      rw [show (w4F true tos id ttl proto b.size ++ w4B true va vb la lb).data.toList = flat [w4F true tos id ttl proto b.size, w4B true va vb la lb] by simp [flat]] at h
      exact h
    rw [HF.out, HB.out] at hch
    have hch8 : ∀ w, Gives Try.prog 30 #[.int .i64 ((65535 - foldN (wsum (flat [w4F true tos id ttl proto b.size, w4B true va vb la lb])) : Nat) : Int), .int .i64 2] w (.string (str (putL (65535 - foldN (wsum (flat [w4F true tos id ttl proto b.size, w4B true va vb la lb]))) 2))) := fun w => hp _ 2 w (by omega) (by omega)
    have HW := Lib.hid (show w4 true va vb la lb tos id ttl proto b = w4F true tos id ttl proto b.size ++ str (putL (65535 - foldN (wsum (flat [w4F true tos id ttl proto b.size, w4B true va vb la lb]))) 2) ++ w4B true va vb la lb ++ b by rfl)
    rw [HF.out, HB.out] at HW hch8
    have hfl := foldN_le (wsum (flat [str (putL 70 1) ++ str (putL tos 1) ++ str (putL (24 + b.size) 2) ++ str (putL id 2) ++ str (putL 0 2) ++ str (putL ttl 1) ++ str (putL proto 1), str (bytesA va la) ++ str (bytesA vb lb) ++ ⟨#[148, 4, 0, 0]⟩]))
    generalize foldN (wsum (flat [str (putL 70 1) ++ str (putL tos 1) ++ str (putL (24 + b.size) 2) ++ str (putL id 2) ++ str (putL 0 2) ++ str (putL ttl 1) ++ str (putL proto 1), str (bytesA va la) ++ str (bytesA vb lb) ++ ⟨#[148, 4, 0, 0]⟩])) = fo at *
    obtain ⟨ck, hck⟩ : ∃ ck : Nat, 65535 - fo = ck := ⟨_, rfl⟩
    have hck2 : ck ≤ 65535 := by omega
    have hckI : 65535 - (fo : Int) = (ck : Int) := by omega
    rw [hck] at HW hch8
    skip
    have m8 := str_size (putL ck 2)
    rw [putL_length] at m8
    rw [HW.out]
    clear HW HF HB hp hck
    generalize str (putL 70 1) = q1 at *
    generalize str (putL (24 + b.size) 2) = q2 at *
    generalize str (putL tos 1) = q3 at *
    generalize str (putL id 2) = q4 at *
    generalize str (putL 0 2) = q5 at *
    generalize str (putL ttl 1) = q6 at *
    generalize str (putL proto 1) = q7 at *
    generalize str (putL ck 2) = q8 at *
    generalize str (bytesA va la) = s1 at *
    generalize str (bytesA vb lb) = s2 at *
    generalize addrV va la = A at *
    generalize addrV vb lb = B at *
    generalize P4.L ⟨tos, id, ttl, proto, va, la, vb, lb, true, b⟩ = L at *
    clear hu
    go_enter Try.func14, Try.ntmps14
    go_wp2
    ((with_reducible first | refine wp_region_bx (Nat.le_refl _) (by kernel_rfl) (by kernel_rfl) ?_ | refine wp_region_bw (by kernel_rfl) (by kernel_rfl) ?_); (repeat (go_big_quiet_step (((with_reducible apply Gives.bw (Nat.le_refl _)); first | (with_reducible exact p1 _) | (with_reducible exact p2 _) | (with_reducible exact p3 _) | (with_reducible exact p4 _) | (with_reducible exact p5 _) | (with_reducible exact p6 _) | (with_reducible exact p7 _))))); refine wpQuiet_nil ?_; rintro _ ⟨x, rfl⟩)
    go_wp2
    ((with_reducible first | refine wp_region_bx (Nat.le_refl _) (by kernel_rfl) (by kernel_rfl) ?_ | refine wp_region_bw (by kernel_rfl) (by kernel_rfl) ?_); (repeat (first | (go_big_quiet_want; refine quiet_loadP 25 rfl rfl Try.underlying25 rfl ?_; refine ⟨?_, ?_, ?_, ?_, ?_, ?_, ?_, ?_⟩; rotate_left 3; (focus (first | omega | (simp; done) | (simp; omega) | ((repeat (first | omega | (simp; done) | refine lt_alloc ?_ | refine BW.lt_of ?_ | refine lt_set ?_ | refine lt_setA ?_ | refine lt_drew ?_ | refine lt_drewN ?_)); done) | (refine Nat.ne_of_lt ?_; ((repeat (first | omega | (simp; done) | refine lt_alloc ?_ | refine BW.lt_of ?_ | refine lt_set ?_ | refine lt_setA ?_ | refine lt_drew ?_ | refine lt_drewN ?_)); done)) | (refine Nat.ne_of_gt ?_; ((repeat (first | omega | (simp; done) | refine lt_alloc ?_ | refine BW.lt_of ?_ | refine lt_set ?_ | refine lt_setA ?_ | refine lt_drew ?_ | refine lt_drewN ?_)); done)))); (focus ((repeat (first | with_reducible assumption | (with_reducible refine Row.newAt ?_; focus (first | with_reducible rfl | (simp; done))) | with_reducible refine Row.alloc ?_ _ | with_reducible refine Row.drew ?_ | focus (with_reducible refine Row.bw ?_ ?_; rotate_left; focus ((first | omega | (simp; done) | (simp; omega) | ((repeat (first | omega | (simp; done) | refine lt_alloc ?_ | refine BW.lt_of ?_ | refine lt_set ?_ | refine lt_setA ?_ | refine lt_drew ?_ | refine lt_drewN ?_)); done) | (refine Nat.ne_of_lt ?_; ((repeat (first | omega | (simp; done) | refine lt_alloc ?_ | refine BW.lt_of ?_ | refine lt_set ?_ | refine lt_setA ?_ | refine lt_drew ?_ | refine lt_drewN ?_)); done)) | (refine Nat.ne_of_gt ?_; ((repeat (first | omega | (simp; done) | refine lt_alloc ?_ | refine BW.lt_of ?_ | refine lt_set ?_ | refine lt_setA ?_ | refine lt_drew ?_ | refine lt_drewN ?_)); done))))) | focus (with_reducible refine Row.far ?_ ?_ _; rotate_left; focus ((first | omega | (simp; done) | (simp; omega) | ((repeat (first | omega | (simp; done) | refine lt_alloc ?_ | refine BW.lt_of ?_ | refine lt_set ?_ | refine lt_setA ?_ | refine lt_drew ?_ | refine lt_drewN ?_)); done) | (refine Nat.ne_of_lt ?_; ((repeat (first | omega | (simp; done) | refine lt_alloc ?_ | refine BW.lt_of ?_ | refine lt_set ?_ | refine lt_setA ?_ | refine lt_drew ?_ | refine lt_drewN ?_)); done)) | (refine Nat.ne_of_gt ?_; ((repeat (first | omega | (simp; done) | refine lt_alloc ?_ | refine BW.lt_of ?_ | refine lt_set ?_ | refine lt_setA ?_ | refine lt_drew ?_ | refine lt_drewN ?_)); done))))) | focus (with_reducible refine Row.set (cs := ?_) ?_ _ _; rotate_left) | focus (with_reducible refine Row.farAll ?_ ?_ _; rotate_left; focus ((first | omega | (simp; done) | (simp; omega) | ((repeat (first | omega | (simp; done) | refine lt_alloc ?_ | refine BW.lt_of ?_ | refine lt_set ?_ | refine lt_setA ?_ | refine lt_drew ?_ | refine lt_drewN ?_)); done) | (refine Nat.ne_of_lt ?_; ((repeat (first | omega | (simp; done) | refine lt_alloc ?_ | refine BW.lt_of ?_ | refine lt_set ?_ | refine lt_setA ?_ | refine lt_drew ?_ | refine lt_drewN ?_)); done)) | (refine Nat.ne_of_gt ?_; ((repeat (first | omega | (simp; done) | refine lt_alloc ?_ | refine BW.lt_of ?_ | refine lt_set ?_ | refine lt_setA ?_ | refine lt_drew ?_ | refine lt_drewN ?_)); done))))) | focus (with_reducible refine Row.setAll (cs := ?_) ?_ ?_; rotate_left) | focus (with_reducible refine Row.farSet ?_ ?_ _ _; rotate_left; focus ((first | omega | (simp; done) | (simp; omega) | ((repeat (first | omega | (simp; done) | refine lt_alloc ?_ | refine BW.lt_of ?_ | refine lt_set ?_ | refine lt_setA ?_ | refine lt_drew ?_ | refine lt_drewN ?_)); done) | (refine Nat.ne_of_lt ?_; ((repeat (first | omega | (simp; done) | refine lt_alloc ?_ | refine BW.lt_of ?_ | refine lt_set ?_ | refine lt_setA ?_ | refine lt_drew ?_ | refine lt_drewN ?_)); done)) | (refine Nat.ne_of_gt ?_; ((repeat (first | omega | (simp; done) | refine lt_alloc ?_ | refine BW.lt_of ?_ | refine lt_set ?_ | refine lt_setA ?_ | refine lt_drew ?_ | refine lt_drewN ?_)); done))))) | focus (with_reducible refine Row.setAt (cs := ?_) ?_ ?_; rotate_left))); (try all_goals (done)); done)); (focus (with_reducible assumption)); (focus (first | rfl | (simp only [Array.size_setIfInBounds, List.size_toArray, List.length_set, za.out, zb.out]; first | done | rfl | kernel_rfl))); go_simp; go_big_quiet_on) | go_big_quiet_step (((with_reducible apply Gives.bw (Nat.le_refl _)); first | (with_reducible exact fa _) | (with_reducible exact fb _))))); refine wpQuiet_nil ?_; rintro _ ⟨x, rfl⟩)
    go_wp2
    ((with_reducible first | refine wp_region_bx (Nat.le_refl _) (by kernel_rfl) (by kernel_rfl) ?_ | refine wp_region_bw (by kernel_rfl) (by kernel_rfl) ?_); (repeat (go_big_quiet_step (((with_reducible apply Gives.bw (Nat.le_refl _)); first | (with_reducible exact hch _) | (with_reducible exact hch8 _))))); refine wpQuiet_nil ?_; rintro _ ⟨x, rfl⟩)
    go_wp2
    go_ret
    exact ⟨rfl, by (first | ((repeat (with_reducible first | assumption | exact Below.refl _ _ | (refine below_bw _ ?_ ?_; rotate_left; focus (((repeat (with_reducible first | assumption | exact Nat.le_refl _ | refine BW.le_of ?_ | refine le_alloc ?_ | refine le_drew ?_ | refine le_drewN ?_ | refine le_set ?_ | refine le_plus ?_ | omega | refine le_setA ?_)); done))) | (refine Below.alloc ?_ ?_ _; rotate_left; focus (((repeat (with_reducible first | assumption | exact Nat.le_refl _ | refine BW.le_of ?_ | refine le_alloc ?_ | refine le_drew ?_ | refine le_drewN ?_ | refine le_set ?_ | refine le_plus ?_ | omega | refine le_setA ?_)); done))) | (refine Below.setCell ?_ ?_ _; rotate_left; focus (((repeat (with_reducible first | assumption | exact Nat.le_refl _ | refine BW.le_of ?_ | refine le_alloc ?_ | refine le_drew ?_ | refine le_drewN ?_ | refine le_set ?_ | refine le_plus ?_ | omega | refine le_setA ?_)); done))) | refine Below.drew ?_ | refine below_drewN ?_ _ | (refine below_setCells ?_ ?_ _ _; rotate_left; focus (((repeat (with_reducible first | assumption | exact Nat.le_refl _ | refine BW.le_of ?_ | refine le_alloc ?_ | refine le_drew ?_ | refine le_drewN ?_ | refine le_set ?_ | refine le_plus ?_ | omega | refine le_setA ?_)); done))))); done) | (simp; done) | (repeat (first | assumption | exact Below.refl _ _ | (refine below_bw _ ?_ ?_; rotate_left; focus ((first | omega | (repeat (first | with_reducible assumption | with_reducible exact Nat.le_refl _ | refine BW.le_of ?_ | refine le_alloc ?_ | refine le_drew ?_ | refine le_drewN ?_ | refine le_set ?_ | refine le_plus ?_ | assumption | exact Nat.le_refl _))))) | (refine Below.alloc ?_ ?_ _; rotate_left; focus ((first | omega | (repeat (first | with_reducible assumption | with_reducible exact Nat.le_refl _ | refine BW.le_of ?_ | refine le_alloc ?_ | refine le_drew ?_ | refine le_drewN ?_ | refine le_set ?_ | refine le_plus ?_ | assumption | exact Nat.le_refl _))))) | (refine Below.setCell ?_ ?_ _; rotate_left; focus ((first | omega | (repeat (first | with_reducible assumption | with_reducible exact Nat.le_refl _ | refine BW.le_of ?_ | refine le_alloc ?_ | refine le_drew ?_ | refine le_drewN ?_ | refine le_set ?_ | refine le_plus ?_ | assumption | exact Nat.le_refl _))))) | refine Below.drew ?_ | refine below_drewN ?_ _ | (refine below_setCells ?_ ?_ _ _; rotate_left; focus ((first | omega | (repeat (first | with_reducible assumption | with_reducible exact Nat.le_refl _ | refine BW.le_of ?_ | refine le_alloc ?_ | refine le_drew ?_ | refine le_drewN ?_ | refine le_set ?_ | refine le_plus ?_ | assumption | exact Nat.le_refl _))))))))⟩
end
end Go.Proofs.Ytcijplfamodjaaa
