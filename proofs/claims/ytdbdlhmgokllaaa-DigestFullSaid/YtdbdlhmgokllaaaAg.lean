/-
  Contracts of packages addr and acequiaref03: groups, and what is all 0.
-/
import Derived.Test.YtdbdlhmgokllaaaAddr
import Derived.Test.YtdbdlhmgokllaaaTabs
import Derived.Stop.BytesEq
import Derived.Test.YtdbdlhmgokllaaaIn
namespace Go.Proofs.Ytdbdlhmgokllaaa
-- %in
open Go.ChangeShapes Go.WideShapes Go.ChangeAt Go.RowKit
set_option linter.unusedVariables false
set_option linter.unusedSimpArgs false

def hdA (l : List UInt8) : Nat := (l[0]?.getD 0).toNat
theorem hdA_lt (l : List UInt8) : hdA l < 256 := (l[0]?.getD 0).toNat_lt
def groupA (v : Bool) (l : List UInt8) : Bool := if v then hdA l == 255 else hdA l / 16 == 14
def zeroA (l : List UInt8) : Bool := l == zero16
theorem addrL_one {v : Bool} {l : List UInt8} : ∀ x ∈ addrL v l, x.oneCell' = true := List.all_eq_true.1 (by have h := addrV_one (v := v) (l := l); unfold addrV at h; simpa using h)
theorem okA_addr {v : Bool} {l : List UInt8} (h : l.length = 16) : OkA (addrL v l) 17 := ⟨addrL_length h, addrL_one⟩
theorem okA_bytes {l : List UInt8} {n : Nat} (h : l.length = n) : OkA (l.map byteV) n := ⟨by simpa using h, fun v hv => by obtain ⟨b, _, rfl⟩ := List.mem_map.1 hv; rfl⟩
theorem addr_segs (v : Bool) (l : List UInt8) : addrV v l = (fls [.one (.bool v), .many (l.map byteV) 16]).toArray := by simp [addrV, addrL, fls]
theorem addr_segs1 (v : Bool) (l : List UInt8) : (fls [.many (addrL v l) 17]).toArray = addrV v l := by simp [addrV, fls]
theorem hdA_cell {l : List UInt8} (h : l.length = 16) : CellA (l.map byteV) 0 (.int .u8 (hdA l : Int)) := by
  obtain ⟨a0, a1, a2, a3, a4, a5, a6, a7, a8, a9, a10, a11, a12, a13, a14, a15, rfl⟩ := sixteen h
  rfl
section
variable {w : World} {v : Bool} {l : List UInt8}
theorem agroup_any (h : l.length = 16) : Gives Try.prog 94 #[.agg (addrV v l)] w (.bool (groupA v l)) := by
  have oA := okA_bytes h
  have cA := hdA_cell h
  have hl := hdA_lt l
  rw [addr_segs]
  unfold groupA
  generalize l.map byteV = A at *
  generalize hdA l = x at *
  refine Gives.of ?_
  have hH := Hp.refl w
  cases v
  · have e : ((x : Int) / 16 == 14) = (x / 16 == 14) := by rw [Bool.eq_iff_iff]; simp; omega
    go_enter Try.func94, Try.ntmps94
    go_wp2_with (first | ((first | (refine iL tab_ok rfl ?_ rfl hH ?_; (focus (first | exact wN rfl | exact rfl)); refine ⟨_, _, rfl, rfl, ?_⟩) | (refine iLi tab_ok rfl ?_ rfl hH ?_; (focus (first | exact wN rfl | exact rfl)); refine ⟨_, _, _, ?_, rfl, rfl, rfl, ?_, ?_⟩; rotate_left; (focus assumption)) | (refine iS1 tab_ok rfl ?_ rfl hH ?_; (focus (first | exact wN rfl | exact rfl)); refine ⟨_, _, _, _, rfl, rfl, rfl, rfl, rfl, ?_⟩) | (refine iSR tab_ok rfl ?_ rfl hH ?_; (focus (first | exact wN rfl | exact rfl)); refine ⟨_, _, _, _, rfl, rfl, rfl, rfl, rfl, ?_, ?_⟩; (focus (repeat (first | exact trivial | assumption | exact OkA.z (by kernel_rfl) (by kernel_rfl) | refine ⟨rfl, ?_⟩ | refine ⟨?_, ?_⟩)))) | (refine hAl tab_ok rfl ?_ hH rfl ?_; (focus (first | exact wN rfl | exact rfl))) | (refine hBx1 rfl ?_ rfl hH ?_; (focus (first | exact wN rfl | exact rfl))) | (refine hBx rfl ?_ rfl hH ?_ ?_; (focus (first | exact wN rfl | exact rfl)); (focus (repeat (first | exact trivial | assumption | exact OkA.z (by kernel_rfl) (by kernel_rfl) | refine ⟨rfl, ?_⟩ | refine ⟨?_, ?_⟩)))) | (refine hBd tab_ok rfl ?_ rfl rfl rfl hH ?_; (focus (first | exact wN rfl | exact rfl)); refine ⟨?_, ?_, ?_⟩; rotate_left; (focus (repeat (first | exact BR.nil | refine BR.one rfl rfl rfl ?_ | (refine BR.row rfl rfl rfl rfl ?_ ?_; (focus (repeat (first | exact trivial | assumption | exact OkA.z (by kernel_rfl) (by kernel_rfl) | refine ⟨rfl, ?_⟩ | refine ⟨?_, ?_⟩))))))))); clear hH; (first | intro W g hH | intro W hH); ((try simp only [Act.put, pA, pB, pC]))))
    go_ret
    exact ⟨by simp [e], hH.below⟩
  · have e : ((x : Int) == 255) = (x == 255) := by rw [Bool.eq_iff_iff]; simp; omega
    go_enter Try.func94, Try.ntmps94
    go_wp2_with (first | ((first | (refine iL tab_ok rfl ?_ rfl hH ?_; (focus (first | exact wN rfl | exact rfl)); refine ⟨_, _, rfl, rfl, ?_⟩) | (refine iLi tab_ok rfl ?_ rfl hH ?_; (focus (first | exact wN rfl | exact rfl)); refine ⟨_, _, _, ?_, rfl, rfl, rfl, ?_, ?_⟩; rotate_left; (focus assumption)) | (refine iS1 tab_ok rfl ?_ rfl hH ?_; (focus (first | exact wN rfl | exact rfl)); refine ⟨_, _, _, _, rfl, rfl, rfl, rfl, rfl, ?_⟩) | (refine iSR tab_ok rfl ?_ rfl hH ?_; (focus (first | exact wN rfl | exact rfl)); refine ⟨_, _, _, _, rfl, rfl, rfl, rfl, rfl, ?_, ?_⟩; (focus (repeat (first | exact trivial | assumption | exact OkA.z (by kernel_rfl) (by kernel_rfl) | refine ⟨rfl, ?_⟩ | refine ⟨?_, ?_⟩)))) | (refine hAl tab_ok rfl ?_ hH rfl ?_; (focus (first | exact wN rfl | exact rfl))) | (refine hBx1 rfl ?_ rfl hH ?_; (focus (first | exact wN rfl | exact rfl))) | (refine hBx rfl ?_ rfl hH ?_ ?_; (focus (first | exact wN rfl | exact rfl)); (focus (repeat (first | exact trivial | assumption | exact OkA.z (by kernel_rfl) (by kernel_rfl) | refine ⟨rfl, ?_⟩ | refine ⟨?_, ?_⟩)))) | (refine hBd tab_ok rfl ?_ rfl rfl rfl hH ?_; (focus (first | exact wN rfl | exact rfl)); refine ⟨?_, ?_, ?_⟩; rotate_left; (focus (repeat (first | exact BR.nil | refine BR.one rfl rfl rfl ?_ | (refine BR.row rfl rfl rfl rfl ?_ ?_; (focus (repeat (first | exact trivial | assumption | exact OkA.z (by kernel_rfl) (by kernel_rfl) | refine ⟨rfl, ?_⟩ | refine ⟨?_, ?_⟩))))))))); clear hH; (first | intro W g hH | intro W hH); ((try simp only [Act.put, pA, pB, pC]))))
    go_ret
    exact ⟨by simp [e], hH.below⟩
theorem aGroup_any (h : l.length = 16) : Gives Try.prog 75 #[.agg (addrV v l)] w (.bool (groupA v l)) := by
  have hg : ∀ w, Gives Try.prog 94 #[.agg (addrV v l)] w (.bool (groupA v l)) := fun w => agroup_any h
  have oA := okA_bytes h
  rw [addr_segs] at *
  generalize l.map byteV = A at *
  generalize groupA v l = x at *
  refine Gives.of ?_
  have hH := Hp.refl w
  go_enter Try.func75, Try.ntmps75
  go_wp2_with (first | ((first | (refine iL tab_ok rfl ?_ rfl hH ?_; (focus (first | exact wN rfl | exact rfl)); refine ⟨_, _, rfl, rfl, ?_⟩) | (refine iLi tab_ok rfl ?_ rfl hH ?_; (focus (first | exact wN rfl | exact rfl)); refine ⟨_, _, _, ?_, rfl, rfl, rfl, ?_, ?_⟩; rotate_left; (focus assumption)) | (refine iS1 tab_ok rfl ?_ rfl hH ?_; (focus (first | exact wN rfl | exact rfl)); refine ⟨_, _, _, _, rfl, rfl, rfl, rfl, rfl, ?_⟩) | (refine iSR tab_ok rfl ?_ rfl hH ?_; (focus (first | exact wN rfl | exact rfl)); refine ⟨_, _, _, _, rfl, rfl, rfl, rfl, rfl, ?_, ?_⟩; (focus (repeat (first | exact trivial | assumption | exact OkA.z (by kernel_rfl) (by kernel_rfl) | refine ⟨rfl, ?_⟩ | refine ⟨?_, ?_⟩)))) | (refine hAl tab_ok rfl ?_ hH rfl ?_; (focus (first | exact wN rfl | exact rfl))) | (refine hBx1 rfl ?_ rfl hH ?_; (focus (first | exact wN rfl | exact rfl))) | (refine hBx rfl ?_ rfl hH ?_ ?_; (focus (first | exact wN rfl | exact rfl)); (focus (repeat (first | exact trivial | assumption | exact OkA.z (by kernel_rfl) (by kernel_rfl) | refine ⟨rfl, ?_⟩ | refine ⟨?_, ?_⟩)))) | (refine hBd tab_ok rfl ?_ rfl rfl rfl hH ?_; (focus (first | exact wN rfl | exact rfl)); refine ⟨?_, ?_, ?_⟩; rotate_left; (focus (repeat (first | exact BR.nil | refine BR.one rfl rfl rfl ?_ | (refine BR.row rfl rfl rfl rfl ?_ ?_; (focus (repeat (first | exact trivial | assumption | exact OkA.z (by kernel_rfl) (by kernel_rfl) | refine ⟨rfl, ?_⟩ | refine ⟨?_, ?_⟩)))))))) | ((with_reducible refine callH hH ?_); refine ⟨?_, ?_, ?_⟩; rotate_left; (focus (first | (with_reducible exact hg _))))); clear hH; (first | intro W g hH | intro W hH); ((try simp only [Act.put, pA, pB, pC]))))
  go_ret
  exact ⟨rfl, hH.below⟩
theorem eqBytes16 {xs ys : List UInt8} (hx : xs.length = 16) (hy : ys.length = 16) (w : World) : (binOp .eql 23 (.agg (xs.map byteV).toArray) (.agg (ys.map byteV).toArray)).run Try.prog w = .ok (.bool (xs == ys)) w := by
  have h : (Try.prog.info? 5).map (·.size) = some 1 := by kernel_rfl
  have hsz : ∀ w, (sizeOf 5).run Try.prog w = .ok 1 w := fun w => by
    cases hq : Try.prog.info? 5 with
    | none => simp [hq] at h
    | some i =>
      have hs : i.size = 1 := by simpa [hq] using h
      simp [sizeOf, typeInfo, hq, hs]
  have e1 := run_equalIn_bytes (P := Try.prog) w 9998 _ _ 16 Try.underlying23 Try.underlying5 hsz xs ys hx hy
  have hc : (fun b : UInt8 => byteV b) = Extern.Stop.cell := rfl
  simp only [hc] at *
  simp only [binOp, Sem.run_bind]
  simp [go_sem]
  unfold Op.equal
  have e2 : (Op.equalIn Op.maxDepth 23 (.agg (xs.map Extern.Stop.cell).toArray) (.agg (ys.map Extern.Stop.cell).toArray)).run Try.prog w = .ok (xs == ys) w := e1
  have hc2 : (byteV : UInt8 → Value) = Extern.Stop.cell := rfl
  try rw [hc2]
  rw [e2]
  rfl
set_option maxHeartbeats 1000000 in
theorem aZero_any (h : l.length = 16) : Gives Try.prog 74 #[.agg (addrV v l)] w (.bool (zeroA l)) := by
  have oA := okA_bytes h
  have he : ∀ w, (binOp .eql 23 (.agg (fls [.many (l.map byteV) 16]).toArray) (.agg (fls [.one (.int .u8 0), .one (.int .u8 0), .one (.int .u8 0), .one (.int .u8 0), .one (.int .u8 0), .one (.int .u8 0), .one (.int .u8 0), .one (.int .u8 0), .one (.int .u8 0), .one (.int .u8 0), .one (.int .u8 0), .one (.int .u8 0), .one (.int .u8 0), .one (.int .u8 0), .one (.int .u8 0), .one (.int .u8 0)]).toArray)).run Try.prog w = .ok (.bool (zeroA l)) w := fun w => by
    have := eqBytes16 (xs := l) (ys := zero16) h rfl w
    rwa [show (l.map byteV) = fls [.many (l.map byteV) 16] by simp [fls]] at this
  rw [addr_segs]
  generalize l.map byteV = A at *
  generalize zeroA l = x at *
  refine Gives.of ?_
  have hH := Hp.refl w
  go_enter Try.func74, Try.ntmps74
  go_wp2_with (first | ((first | (refine iL tab_ok rfl ?_ rfl hH ?_; (focus (first | exact wN rfl | exact rfl)); refine ⟨_, _, rfl, rfl, ?_⟩) | (refine iLi tab_ok rfl ?_ rfl hH ?_; (focus (first | exact wN rfl | exact rfl)); refine ⟨_, _, _, ?_, rfl, rfl, rfl, ?_, ?_⟩; rotate_left; (focus assumption)) | (refine iS1 tab_ok rfl ?_ rfl hH ?_; (focus (first | exact wN rfl | exact rfl)); refine ⟨_, _, _, _, rfl, rfl, rfl, rfl, rfl, ?_⟩) | (refine iSR tab_ok rfl ?_ rfl hH ?_; (focus (first | exact wN rfl | exact rfl)); refine ⟨_, _, _, _, rfl, rfl, rfl, rfl, rfl, ?_, ?_⟩; (focus (repeat (first | exact trivial | assumption | exact OkA.z (by kernel_rfl) (by kernel_rfl) | refine ⟨rfl, ?_⟩ | refine ⟨?_, ?_⟩)))) | (refine hAl tab_ok rfl ?_ hH rfl ?_; (focus (first | exact wN rfl | exact rfl))) | (refine hBx1 rfl ?_ rfl hH ?_; (focus (first | exact wN rfl | exact rfl))) | (refine hBx rfl ?_ rfl hH ?_ ?_; (focus (first | exact wN rfl | exact rfl)); (focus (repeat (first | exact trivial | assumption | exact OkA.z (by kernel_rfl) (by kernel_rfl) | refine ⟨rfl, ?_⟩ | refine ⟨?_, ?_⟩)))) | (refine hBd tab_ok rfl ?_ rfl rfl rfl hH ?_; (focus (first | exact wN rfl | exact rfl)); refine ⟨?_, ?_, ?_⟩; rotate_left; (focus (repeat (first | exact BR.nil | refine BR.one rfl rfl rfl ?_ | (refine BR.row rfl rfl rfl rfl ?_ ?_; (focus (repeat (first | exact trivial | assumption | exact OkA.z (by kernel_rfl) (by kernel_rfl) | refine ⟨rfl, ?_⟩ | refine ⟨?_, ?_⟩))))))))); clear hH; (first | intro W g hH | intro W hH); ((try simp only [Act.put, pA, pB, pC]))))
  go_ret
  exact ⟨rfl, hH.below⟩
end
end Go.Proofs.Ytdbdlhmgokllaaa
