/-
  Thi: Th, Ti in one text.
-/
import Derived.Test.YtnobencogihbnaaGreatTg
import Derived.Test.YtnobencogihbnaaGreatIn
namespace Go.Proofs.YtnobencogihbnaaGreat
-- %in
section
open Go.ChangeShapes Go.WideShapes Go.ChangeAt Go.RowKit
set_option linter.unusedVariables false
set_option linter.unusedSimpArgs false
set_option maxRecDepth 20000
attribute [local irreducible] wpList

def rcOk4 (r : Rc) : Bool := decide (1 ≤ r.kind) && decide (r.kind ≤ 6) && grp4 r.grp && srcs4 r.src
def rcOk6 (r : Rc) : Bool := decide (1 ≤ r.kind) && decide (r.kind ≤ 6) && grp6 r.grp && srcs6 r.src
def recN (k s : Nat) : List Rc → Nat
  | [] => 0
  | r :: R => k + s * r.src.length + recN k s R
theorem recN_app (k s : Nat) : ∀ A B : List Rc, recN k s (A ++ B) = recN k s A + recN k s B
  | [], B => by simp [recN]
  | r :: A, B => by simp [recN, recN_app k s A B]; omega
theorem recN_le {k s : Nat} {f : Rc → Bool} (hf : ∀ r, f r = true → r.src.length ≤ 64) : ∀ R : List Rc, R.all f = true → recN k s R ≤ R.length * (k + s * 64)
  | [], _ => by simp [recN]
  | r :: R, h => by
    simp only [List.all_cons, Bool.and_eq_true] at h
    have := recN_le (k := k) (s := s) hf R h.2
    have h1 := Nat.mul_le_mul_left s (hf r h.1)
    simp only [recN, List.length_cons, Nat.succ_mul]
    omega
theorem rcOk4_len (r : Rc) (h : rcOk4 r = true) : r.src.length ≤ 64 := by
  unfold rcOk4 srcs4 at h
  simp at h
  omega
theorem rcOk6_len (r : Rc) (h : rcOk6 r = true) : r.src.length ≤ 64 := by
  unfold rcOk6 srcs6 at h
  simp at h
  omega
noncomputable def good4 (T : Tk) : Bool :=
  if T.v6 || decide (T.ver < 1) || decide (3 < T.ver) || decide (T.kind < 1) || decide (3 < T.kind) then false else
  if !(T.ver == 3 && T.kind == 1) && (T.quiet || T.rob != 0 || T.every != 0 || decide (0 < T.src.length)) then false else
  if (T.kind != 1 && T.resp != 0) || (decide (0 < T.recs.length) && (decide (T.ver < 3) || T.kind != 2)) then false else
  if T.kind == 3 then T.ver == 2 && grp4 T.grp else
  if T.kind == 2 && decide (T.ver < 3) then grp4 T.grp else
  if T.kind == 2 then T.recs.all rcOk4 && (T.grp == Ad.z && decide (T.recs.length < 65) && decide (8 + recN 8 4 T.recs < 1401)) else
  if T.ver == 1 then T.resp == 0 && T.grp == Ad.z else
  if T.grp != Ad.z && !grp4 T.grp then false else
  if T.ver == 2 then decide (0 < T.resp) && decide (T.resp < 256) else
  ex8 T.resp && ex8 T.every && decide (0 ≤ T.rob) && decide (T.rob < 8) && srcs4 T.src && (T.grp != Ad.z || T.src.length == 0)
section
variable {w : World} {sp rp : Option Addr} {sc rc : Nat} {T : Tk}
theorem len_beq (n : Nat) : ((n : Int) == 0) = (n == 0) := by rw [Bool.eq_iff_iff]; simp
theorem zAd_eq : (fls [.one (.bool false), .many (zeroL Tryz.prog 22) 16]).toArray = (fls [.many (adL Ad.z) 17]).toArray := by
  have z16 : zero16.map byteV = zeroL Tryz.prog 22 := by kernel_rfl
  rw [← z16]
  rfl
set_option maxRecDepth 20000 in
set_option maxHeartbeats 4000000 in
theorem rgood4_bad {v6 quiet : Bool} {ver kind resp rob every : Int} {G : List Value} (oG : OkA G 17) {n m : Nat} (h : v6 = true ∨ ver < 1 ∨ 3 < ver ∨ kind < 1 ∨ 3 < kind) : Gives Tryz.prog 13 #[.agg (fls [.one (.bool v6), .one (.int .i64 ver), .one (.int .i64 kind), .one (.int .i64 resp), .many G 17, .one (.bool quiet), .one (.int .i64 rob), .one (.int .i64 every), .one (.slice sp n sc), .one (.slice rp m rc)]).toArray] w (.bool false) := by
  refine Gives.of ?_
  have hH := Hp.refl w
  go_enter Tryz.func13, Tryz.ntmps13
  by_cases h1 : v6 = true
  · subst h1
    go_wp2_with (first | ((first | (refine iL tab_ok rfl ?_ rfl hH ?_; (focus (first | exact wN rfl | exact rfl)); refine ⟨_, _, rfl, rfl, ?_⟩) | (refine iSR tab_ok rfl ?_ rfl hH ?_; (focus (first | exact wN rfl | exact rfl)); refine ⟨_, _, _, _, rfl, rfl, rfl, rfl, rfl, ?_, ?_⟩; (focus (repeat (first | exact trivial | assumption | exact OkA.z (by kernel_rfl) (by kernel_rfl) | refine ⟨rfl, ?_⟩ | refine ⟨?_, ?_⟩)))) | (refine hAl tab_ok rfl ?_ hH rfl ?_; (focus (first | exact wN rfl | exact rfl))) | (refine hBx rfl ?_ rfl hH ?_ ?_; (focus (first | exact wN rfl | exact rfl)); (focus (repeat (first | exact trivial | assumption | exact OkA.z (by kernel_rfl) (by kernel_rfl) | refine ⟨rfl, ?_⟩ | refine ⟨?_, ?_⟩)))) | (refine hBd tab_ok rfl ?_ rfl rfl rfl hH ?_; (focus (first | exact wN rfl | exact rfl)); refine ⟨?_, ?_, ?_⟩; rotate_left; (focus (repeat (first | exact BR.nil | refine BR.one rfl rfl rfl ?_ | (refine BR.row rfl rfl rfl rfl ?_ ?_; (focus (repeat (first | exact trivial | assumption | exact OkA.z (by kernel_rfl) (by kernel_rfl) | refine ⟨rfl, ?_⟩ | refine ⟨?_, ?_⟩))))))))); clear hH; (first | intro W g hH | intro W hH); ((try simp only [Act.put, pA, pB, pC]))))
    go_ret
    exact ⟨rfl, hH.below⟩
  obtain rfl : v6 = false := by simpa using h1
  by_cases h2 : ver < 1
  · go_wp2_with (first | ((first | (refine iL tab_ok rfl ?_ rfl hH ?_; (focus (first | exact wN rfl | exact rfl)); refine ⟨_, _, rfl, rfl, ?_⟩) | (refine iSR tab_ok rfl ?_ rfl hH ?_; (focus (first | exact wN rfl | exact rfl)); refine ⟨_, _, _, _, rfl, rfl, rfl, rfl, rfl, ?_, ?_⟩; (focus (repeat (first | exact trivial | assumption | exact OkA.z (by kernel_rfl) (by kernel_rfl) | refine ⟨rfl, ?_⟩ | refine ⟨?_, ?_⟩)))) | (refine hAl tab_ok rfl ?_ hH rfl ?_; (focus (first | exact wN rfl | exact rfl))) | (refine hBx rfl ?_ rfl hH ?_ ?_; (focus (first | exact wN rfl | exact rfl)); (focus (repeat (first | exact trivial | assumption | exact OkA.z (by kernel_rfl) (by kernel_rfl) | refine ⟨rfl, ?_⟩ | refine ⟨?_, ?_⟩)))) | (refine hBd tab_ok rfl ?_ rfl rfl rfl hH ?_; (focus (first | exact wN rfl | exact rfl)); refine ⟨?_, ?_, ?_⟩; rotate_left; (focus (repeat (first | exact BR.nil | refine BR.one rfl rfl rfl ?_ | (refine BR.row rfl rfl rfl rfl ?_ ?_; (focus (repeat (first | exact trivial | assumption | exact OkA.z (by kernel_rfl) (by kernel_rfl) | refine ⟨rfl, ?_⟩ | refine ⟨?_, ?_⟩))))))))); clear hH; (first | intro W g hH | intro W hH); ((try simp only [Act.put, pA, pB, pC]))))
    go_ret
    exact ⟨rfl, hH.below⟩
  by_cases h3 : 3 < ver
  · go_wp2_with (first | ((first | (refine iL tab_ok rfl ?_ rfl hH ?_; (focus (first | exact wN rfl | exact rfl)); refine ⟨_, _, rfl, rfl, ?_⟩) | (refine iSR tab_ok rfl ?_ rfl hH ?_; (focus (first | exact wN rfl | exact rfl)); refine ⟨_, _, _, _, rfl, rfl, rfl, rfl, rfl, ?_, ?_⟩; (focus (repeat (first | exact trivial | assumption | exact OkA.z (by kernel_rfl) (by kernel_rfl) | refine ⟨rfl, ?_⟩ | refine ⟨?_, ?_⟩)))) | (refine hAl tab_ok rfl ?_ hH rfl ?_; (focus (first | exact wN rfl | exact rfl))) | (refine hBx rfl ?_ rfl hH ?_ ?_; (focus (first | exact wN rfl | exact rfl)); (focus (repeat (first | exact trivial | assumption | exact OkA.z (by kernel_rfl) (by kernel_rfl) | refine ⟨rfl, ?_⟩ | refine ⟨?_, ?_⟩)))) | (refine hBd tab_ok rfl ?_ rfl rfl rfl hH ?_; (focus (first | exact wN rfl | exact rfl)); refine ⟨?_, ?_, ?_⟩; rotate_left; (focus (repeat (first | exact BR.nil | refine BR.one rfl rfl rfl ?_ | (refine BR.row rfl rfl rfl rfl ?_ ?_; (focus (repeat (first | exact trivial | assumption | exact OkA.z (by kernel_rfl) (by kernel_rfl) | refine ⟨rfl, ?_⟩ | refine ⟨?_, ?_⟩))))))))); clear hH; (first | intro W g hH | intro W hH); ((try simp only [Act.put, pA, pB, pC]))))
    go_ret
    exact ⟨rfl, hH.below⟩
  by_cases h4 : kind < 1
  · go_wp2_with (first | ((first | (refine iL tab_ok rfl ?_ rfl hH ?_; (focus (first | exact wN rfl | exact rfl)); refine ⟨_, _, rfl, rfl, ?_⟩) | (refine iSR tab_ok rfl ?_ rfl hH ?_; (focus (first | exact wN rfl | exact rfl)); refine ⟨_, _, _, _, rfl, rfl, rfl, rfl, rfl, ?_, ?_⟩; (focus (repeat (first | exact trivial | assumption | exact OkA.z (by kernel_rfl) (by kernel_rfl) | refine ⟨rfl, ?_⟩ | refine ⟨?_, ?_⟩)))) | (refine hAl tab_ok rfl ?_ hH rfl ?_; (focus (first | exact wN rfl | exact rfl))) | (refine hBx rfl ?_ rfl hH ?_ ?_; (focus (first | exact wN rfl | exact rfl)); (focus (repeat (first | exact trivial | assumption | exact OkA.z (by kernel_rfl) (by kernel_rfl) | refine ⟨rfl, ?_⟩ | refine ⟨?_, ?_⟩)))) | (refine hBd tab_ok rfl ?_ rfl rfl rfl hH ?_; (focus (first | exact wN rfl | exact rfl)); refine ⟨?_, ?_, ?_⟩; rotate_left; (focus (repeat (first | exact BR.nil | refine BR.one rfl rfl rfl ?_ | (refine BR.row rfl rfl rfl rfl ?_ ?_; (focus (repeat (first | exact trivial | assumption | exact OkA.z (by kernel_rfl) (by kernel_rfl) | refine ⟨rfl, ?_⟩ | refine ⟨?_, ?_⟩))))))))); clear hH; (first | intro W g hH | intro W hH); ((try simp only [Act.put, pA, pB, pC]))))
    go_ret
    exact ⟨rfl, hH.below⟩
  have h5 : 3 < kind := by simp at h; omega
  go_wp2_with (first | ((first | (refine iL tab_ok rfl ?_ rfl hH ?_; (focus (first | exact wN rfl | exact rfl)); refine ⟨_, _, rfl, rfl, ?_⟩) | (refine iSR tab_ok rfl ?_ rfl hH ?_; (focus (first | exact wN rfl | exact rfl)); refine ⟨_, _, _, _, rfl, rfl, rfl, rfl, rfl, ?_, ?_⟩; (focus (repeat (first | exact trivial | assumption | exact OkA.z (by kernel_rfl) (by kernel_rfl) | refine ⟨rfl, ?_⟩ | refine ⟨?_, ?_⟩)))) | (refine hAl tab_ok rfl ?_ hH rfl ?_; (focus (first | exact wN rfl | exact rfl))) | (refine hBx rfl ?_ rfl hH ?_ ?_; (focus (first | exact wN rfl | exact rfl)); (focus (repeat (first | exact trivial | assumption | exact OkA.z (by kernel_rfl) (by kernel_rfl) | refine ⟨rfl, ?_⟩ | refine ⟨?_, ?_⟩)))) | (refine hBd tab_ok rfl ?_ rfl rfl rfl hH ?_; (focus (first | exact wN rfl | exact rfl)); refine ⟨?_, ?_, ?_⟩; rotate_left; (focus (repeat (first | exact BR.nil | refine BR.one rfl rfl rfl ?_ | (refine BR.row rfl rfl rfl rfl ?_ ?_; (focus (repeat (first | exact trivial | assumption | exact OkA.z (by kernel_rfl) (by kernel_rfl) | refine ⟨rfl, ?_⟩ | refine ⟨?_, ?_⟩))))))))); clear hH; (first | intro W g hH | intro W hH); ((try simp only [Act.put, pA, pB, pC]))))
  go_ret
  exact ⟨rfl, hH.below⟩
end
end
section
open Go.ChangeShapes Go.WideShapes Go.ChangeAt Go.RowKit
set_option linter.unusedVariables false
set_option linter.unusedSimpArgs false
set_option maxRecDepth 20000
attribute [local irreducible] wpList

noncomputable def good6 (T : Tk) : Bool :=
  if !T.v6 || decide (T.ver < 1) || decide (2 < T.ver) || decide (T.kind < 1) || decide (3 < T.kind) || (T.ver == 2 && T.kind == 3) then false else
  if (!(T.ver == 2 && T.kind == 1) && (T.quiet || T.rob != 0 || T.every != 0 || decide (0 < T.src.length))) || (T.kind != 1 && T.resp != 0) then false else
  if T.ver == 2 && T.kind == 2 then T.recs.all rcOk6 && ((!T.grp.v && zeroA T.grp.b) && decide (T.recs.length < 65) && decide (8 + recN 20 16 T.recs < 1401)) else
  if decide (0 < T.recs.length) then false else
  if decide (1 < T.kind) then grp6 T.grp else
  if (!zero6 T.grp && !grp6 T.grp) || decide (T.resp < 0) then false else
  if T.ver == 1 then decide (T.resp < 65536) else
  (((valN 4096 (cod16 T.resp) : Int) == T.resp) && decide (0 ≤ T.every) && ((valN 16 (cod8 T.every) : Int) == T.every)) && decide (0 ≤ T.rob) && decide (T.rob < 8) && srcs6 T.src && (!zero6 T.grp || T.src.length == 0)
section
variable {w : World} {sp rp : Option Addr} {sc rc : Nat} {T : Tk}
set_option maxRecDepth 20000 in
set_option maxHeartbeats 4000000 in
theorem rgood6_bad {v6 quiet : Bool} {ver kind resp rob every : Int} {G : List Value} (oG : OkA G 17) {n m : Nat} (h : v6 = false ∨ ver < 1 ∨ 2 < ver ∨ kind < 1 ∨ 3 < kind ∨ (ver = 2 ∧ kind = 3)) : Gives Tryz.prog 12 #[.agg (fls [.one (.bool v6), .one (.int .i64 ver), .one (.int .i64 kind), .one (.int .i64 resp), .many G 17, .one (.bool quiet), .one (.int .i64 rob), .one (.int .i64 every), .one (.slice sp n sc), .one (.slice rp m rc)]).toArray] w (.bool false) := by
  refine Gives.of ?_
  have hH := Hp.refl w
  go_enter Tryz.func12, Tryz.ntmps12
  by_cases h1 : v6 = false
  · subst h1
    go_wp2_with (first | ((first | (refine iL tab_ok rfl ?_ rfl hH ?_; (focus (first | exact wN rfl | exact rfl)); refine ⟨_, _, rfl, rfl, ?_⟩) | (refine hBx rfl ?_ rfl hH ?_ ?_; (focus (first | exact wN rfl | exact rfl)); (focus (repeat (first | exact trivial | assumption | exact OkA.z (by kernel_rfl) (by kernel_rfl) | refine ⟨rfl, ?_⟩ | refine ⟨?_, ?_⟩))))); clear hH; (first | intro W g hH | intro W hH); ((try simp only [Act.put, pA, pB, pC]))))
    go_ret
    exact ⟨rfl, hH.below⟩
  obtain rfl : v6 = true := by simpa using h1
  by_cases h2 : ver < 1
  · go_wp2_with (first | ((first | (refine iL tab_ok rfl ?_ rfl hH ?_; (focus (first | exact wN rfl | exact rfl)); refine ⟨_, _, rfl, rfl, ?_⟩) | (refine hBx rfl ?_ rfl hH ?_ ?_; (focus (first | exact wN rfl | exact rfl)); (focus (repeat (first | exact trivial | assumption | exact OkA.z (by kernel_rfl) (by kernel_rfl) | refine ⟨rfl, ?_⟩ | refine ⟨?_, ?_⟩))))); clear hH; (first | intro W g hH | intro W hH); ((try simp only [Act.put, pA, pB, pC]))))
    go_ret
    exact ⟨rfl, hH.below⟩
  by_cases h3 : 2 < ver
  · go_wp2_with (first | ((first | (refine iL tab_ok rfl ?_ rfl hH ?_; (focus (first | exact wN rfl | exact rfl)); refine ⟨_, _, rfl, rfl, ?_⟩) | (refine hBx rfl ?_ rfl hH ?_ ?_; (focus (first | exact wN rfl | exact rfl)); (focus (repeat (first | exact trivial | assumption | exact OkA.z (by kernel_rfl) (by kernel_rfl) | refine ⟨rfl, ?_⟩ | refine ⟨?_, ?_⟩))))); clear hH; (first | intro W g hH | intro W hH); ((try simp only [Act.put, pA, pB, pC]))))
    go_ret
    exact ⟨rfl, hH.below⟩
  by_cases h4 : kind < 1
  · go_wp2_with (first | ((first | (refine iL tab_ok rfl ?_ rfl hH ?_; (focus (first | exact wN rfl | exact rfl)); refine ⟨_, _, rfl, rfl, ?_⟩) | (refine hBx rfl ?_ rfl hH ?_ ?_; (focus (first | exact wN rfl | exact rfl)); (focus (repeat (first | exact trivial | assumption | exact OkA.z (by kernel_rfl) (by kernel_rfl) | refine ⟨rfl, ?_⟩ | refine ⟨?_, ?_⟩))))); clear hH; (first | intro W g hH | intro W hH); ((try simp only [Act.put, pA, pB, pC]))))
    go_ret
    exact ⟨rfl, hH.below⟩
  by_cases h5 : 3 < kind
  · go_wp2_with (first | ((first | (refine iL tab_ok rfl ?_ rfl hH ?_; (focus (first | exact wN rfl | exact rfl)); refine ⟨_, _, rfl, rfl, ?_⟩) | (refine hBx rfl ?_ rfl hH ?_ ?_; (focus (first | exact wN rfl | exact rfl)); (focus (repeat (first | exact trivial | assumption | exact OkA.z (by kernel_rfl) (by kernel_rfl) | refine ⟨rfl, ?_⟩ | refine ⟨?_, ?_⟩))))); clear hH; (first | intro W g hH | intro W hH); ((try simp only [Act.put, pA, pB, pC]))))
    go_ret
    exact ⟨rfl, hH.below⟩
  obtain ⟨rfl, rfl⟩ : ver = 2 ∧ kind = 3 := by simp at h; omega
  go_wp2_with (first | ((first | (refine iL tab_ok rfl ?_ rfl hH ?_; (focus (first | exact wN rfl | exact rfl)); refine ⟨_, _, rfl, rfl, ?_⟩) | (refine hBx rfl ?_ rfl hH ?_ ?_; (focus (first | exact wN rfl | exact rfl)); (focus (repeat (first | exact trivial | assumption | exact OkA.z (by kernel_rfl) (by kernel_rfl) | refine ⟨rfl, ?_⟩ | refine ⟨?_, ?_⟩))))); clear hH; (first | intro W g hH | intro W hH); ((try simp only [Act.put, pA, pB, pC]))))
  go_ret
  exact ⟨rfl, hH.below⟩
end
end
end Go.Proofs.YtnobencogihbnaaGreat
