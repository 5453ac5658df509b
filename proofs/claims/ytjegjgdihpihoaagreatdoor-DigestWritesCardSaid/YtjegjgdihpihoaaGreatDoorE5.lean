/-
  DigestJudges: contracts of the law's package, and the law.
-/
import Derived.Test.YtjegjgdihpihoaaGreatDoorE3
import Derived.Test.YtjegjgdihpihoaaGreatDoorE4
import Derived.Test.YtjegjgdihpihoaaGreatDoorRows
namespace Go.Proofs.YtjegjgdihpihoaaGreatDoor
open Go.ChangeShapes Go.WideShapes Go.ChangeAt Go.RowKit
set_option linter.unusedVariables false
set_option linter.unusedSimpArgs false
set_option maxRecDepth 20000
attribute [local irreducible] wpList

theorem own : ownKnob Tryz.prog.godebug = none := by kernel_rfl
def g239 : List UInt8 := [239, 1, 1, 1] ++ List.replicate 12 0
def ad239 : Ad := ⟨false, g239, rfl⟩
def en239 : En := ⟨5, ad239, true, []⟩
section
variable {w : World}
theorem four27 : Gives Tryz.prog 22 #[.int .u8 1] w (.agg (fls [.many (adL ad239) 17]).toArray) := by
  refine Gives.of ?_
  have hH := Hp.refl w
  have e1 : (fls [.many (adL ad239) 17]).toArray = (fls [.one (.bool false), .many [.int .u8 239, .int .u8 1, .int .u8 1, .int .u8 1, .int .u8 0, .int .u8 0, .int .u8 0, .int .u8 0, .int .u8 0, .int .u8 0, .int .u8 0, .int .u8 0, .int .u8 0, .int .u8 0, .int .u8 0, .int .u8 0] 16]).toArray := by kernel_rfl
  rw [e1]
  go_enter Tryz.func22, Tryz.ntmps22
  go_wp2_with (first | ((first | (refine gL rfl ?_; first | (refine hL1 tab_ok 0 rfl ?_ rfl hH rfl rfl rfl rfl ?_; (focus (first | exact wN rfl | exact rfl))) | (refine hL1 tab_ok 1 rfl ?_ rfl hH rfl rfl rfl rfl ?_; (focus (first | exact wN rfl | exact rfl))) | (refine hL1 tab_ok 2 rfl ?_ rfl hH rfl rfl rfl rfl ?_; (focus (first | exact wN rfl | exact rfl))) | (refine hLR tab_ok 0 rfl ?_ rfl hH rfl rfl rfl rfl ?_; (focus (first | exact wN rfl | exact rfl))) | (refine hLR tab_ok 1 rfl ?_ rfl hH rfl rfl rfl rfl ?_; (focus (first | exact wN rfl | exact rfl))) | (refine hLR tab_ok 2 rfl ?_ rfl hH rfl rfl rfl rfl ?_; (focus (first | exact wN rfl | exact rfl))) | (refine hL1i tab_ok 0 rfl ?_ rfl hH rfl rfl rfl rfl ?_; (focus (first | exact wN rfl | exact rfl)); refine ⟨?_, ?_, ?_⟩; rotate_left; (focus assumption)) | (refine hL1i tab_ok 1 rfl ?_ rfl hH rfl rfl rfl rfl ?_; (focus (first | exact wN rfl | exact rfl)); refine ⟨?_, ?_, ?_⟩; rotate_left; (focus assumption)) | (refine hL1i tab_ok 2 rfl ?_ rfl hH rfl rfl rfl rfl ?_; (focus (first | exact wN rfl | exact rfl)); refine ⟨?_, ?_, ?_⟩; rotate_left; (focus assumption))) | (refine gS rfl ?_; first | (refine hS1 tab_ok 0 rfl ?_ rfl rfl hH rfl rfl rfl rfl rfl ?_; (focus (first | exact wN rfl | exact rfl))) | (refine hS1 tab_ok 1 rfl ?_ rfl rfl hH rfl rfl rfl rfl rfl ?_; (focus (first | exact wN rfl | exact rfl))) | (refine hS1 tab_ok 2 rfl ?_ rfl rfl hH rfl rfl rfl rfl rfl ?_; (focus (first | exact wN rfl | exact rfl))) | (refine hSR tab_ok 0 rfl ?_ rfl rfl hH rfl rfl rfl rfl rfl ?_ ?_; (focus (first | exact wN rfl | exact rfl)); (focus (repeat (first | exact trivial | assumption | exact OkA.z (by kernel_rfl) (by kernel_rfl) | refine ⟨rfl, ?_⟩ | refine ⟨?_, ?_⟩)))) | (refine hSR tab_ok 1 rfl ?_ rfl rfl hH rfl rfl rfl rfl rfl ?_ ?_; (focus (first | exact wN rfl | exact rfl)); (focus (repeat (first | exact trivial | assumption | exact OkA.z (by kernel_rfl) (by kernel_rfl) | refine ⟨rfl, ?_⟩ | refine ⟨?_, ?_⟩)))) | (refine hSR tab_ok 2 rfl ?_ rfl rfl hH rfl rfl rfl rfl rfl ?_ ?_; (focus (first | exact wN rfl | exact rfl)); (focus (repeat (first | exact trivial | assumption | exact OkA.z (by kernel_rfl) (by kernel_rfl) | refine ⟨rfl, ?_⟩ | refine ⟨?_, ?_⟩))))) | (refine hAl tab_ok rfl ?_ hH rfl ?_; (focus (first | exact wN rfl | exact rfl))) | (refine hBx1 rfl ?_ rfl hH ?_; (focus (first | exact wN rfl | exact rfl))) | (refine hBx rfl ?_ rfl hH ?_ ?_; (focus (first | exact wN rfl | exact rfl)); (focus (repeat (first | exact trivial | assumption | exact OkA.z (by kernel_rfl) (by kernel_rfl) | refine ⟨rfl, ?_⟩ | refine ⟨?_, ?_⟩)))) | (refine hBd tab_ok rfl ?_ rfl rfl rfl hH ?_; (focus (first | exact wN rfl | exact rfl)); refine ⟨?_, ?_, ?_⟩; rotate_left; (focus (repeat (first | exact BR.nil | refine BR.one rfl rfl rfl ?_ | (refine BR.row rfl rfl rfl rfl ?_ ?_; (focus (repeat (first | exact trivial | assumption | exact OkA.z (by kernel_rfl) (by kernel_rfl) | refine ⟨rfl, ?_⟩ | refine ⟨?_, ?_⟩))))))))); clear hH; (first | intro W g hH | intro W hH); ((try simp only [Act.put, List.setIfInBounds_toArray, List.set_cons_succ, List.set_cons_zero]))))
  (first | refine retC Tryz.results22 tab_ok 0 rfl rfl hH rfl rfl rfl rfl ?_ | refine retC Tryz.results22 tab_ok 1 rfl rfl hH rfl rfl rfl rfl ?_ | refine retC Tryz.results22 tab_ok 2 rfl rfl hH rfl rfl rfl rfl ?_)
  exact ⟨rfl, hH.below⟩
theorem one239 : oneE en239 = true := by
  unfold oneE
  rw [goodL_of]
  simp only [en239, ofA, List.foldl_nil, allV, noneF, placedE]
  kernel_rfl
theorem goodD239 : goodD [en239] = true := by
  unfold goodD
  rw [goodD1_true (fun i hi h => ?_)]
  · rfl
  · obtain rfl : i = 0 := by simp at h; exact h
    exact ⟨one239, fun k e => by omega⟩
theorem diff239 : diffF [] [en239] = [⟨en239, false⟩] := by
  rw [diffF, diffF]
theorem write239 : writeC ⟨en239, false⟩ = ⟨#[2, 0, 5, 239, 1, 1, 1, 0]⟩ := by kernel_rfl
theorem ens_one {W : World} {g : Nat} {t : TypeId} {e : En} {p : Option Addr} {c : Nat} (hr : Row W g t (fls (enS e p c)).toArray) (h : AdsAt W p e.src) : EnsAt W (some ⟨g, 0, none⟩) [e] :=
  ensAt_row (R := [⟨e, p, c⟩]) (J := []) (by simp) (by simpa [evsL, evS] using hr) (fun y hy => by rw [List.mem_singleton.1 hy]; exact h)
theorem hDiff {B : Nat} {w0 W : World} {H : HB} {p p' : Option Addr} {c c' : Nat} {L M : List En} {Q : Ending → World → Prop} (hH : Hp B w0 W H) (h : EnsAt W p L) (h' : EnsAt W p' M) (hl : L.length ≤ c) (hl' : M.length ≤ c') (hL : L.length ≤ 1000) (hM : M.length ≤ 1000) (hs : ∀ e ∈ L, e.src.length ≤ 1000) (hs' : ∀ e ∈ M, e.src.length ≤ 1000)
    (hQ : ∀ W' p c D, Hid (∀ B w0 W, Hp B w0 W D → ChsAt W p (diffF L M)) → Hid (∀ r ∈ D, r.2.2.1 = true) → Hp B w0 W' (H ++ D) → Q (.returned (.slice p (diffF L M).length c)) W') : Calls Tryz.prog 23 #[.slice p L.length c, .slice p' M.length c'] W Q :=
  (dDiff_any h h' hl hl' hL hM hs hs').mono fun _ _ ⟨p, c, D, he, hm, hr⟩ => by subst he; exact hQ _ p c D (Lib.hid hr) (Lib.hid hm.2) (hH.join hm)
theorem hLd {P : Program} {T : Tab} {B : Nat} {w0 W : World} {H : HB} {e : TyE} {ops : Array Oper} {rest : List Oper} {op : Oper} {a : Act} {Q : Exit → Act → World → Prop} {ty : TypeId} {x : Operand} {q : Addr} (hT : TabOk P T) (ho : op.op = .load ty x) (hw : Region.wanted op (yielded ops a.tmps) = true) (hx : a.eval x = .pointer (some q)) (hH : Hp B w0 W H) (hty : findT ty T = some e) (hr : e.row = false)
    (h : ∃ v, W.cell? q = some v ∧ ∀ W', Hp B w0 W' H → wpList P ops Q rest (a.put op.dst v) W') : wpList P ops Q (op :: rest) a W := by
  obtain ⟨v, hv, h⟩ := h
  exact wpL_load ho hw hx (run_load1 (by rw [(hT.find hty).row, hr]) hv) (h W hH)
set_option maxHeartbeats 1000000 in
theorem lives27 : Gives Tryz.prog 8 #[] w (.bool true) := by
  refine Gives.of ?_
  have hH := Hp.refl w
  have oG := adL_ok ad239
  have f4 : ∀ w, Gives Tryz.prog 22 #[.int .u8 1] w (.agg (fls [.many (adL ad239) 17]).toArray) := fun w => four27
  have FD := Lib.hid (show ∀ (W : World) (g c : Nat) (H : HB) (Q : Ending → World → Prop), 1 ≤ c → Row W g 29 (fls [.one (.int .i64 5), .many (adL ad239) 17, .one (.bool true), .one (.slice none 0 0)]).toArray → Hp w.heap.size w W H → (∀ W' p c D, Hid (∀ B w0 W, Hp B w0 W D → ChsAt W p [⟨en239, false⟩]) → Hid (∀ r ∈ D, r.2.2.1 = true) → Hp w.heap.size w W' (H ++ D) → Q (.returned (.slice p 1 c)) W') → Calls Tryz.prog 23 #[.slice none 0 0, .slice (some ⟨g, 0, none⟩) 1 c] W Q from fun W g c H Q hc hr hH hQ => by
    have := hDiff (L := []) (M := [en239]) (p := none) (c := 0) (p' := some ⟨g, 0, none⟩) (c' := c) (Q := Q) hH EnsAt.nil (ens_one (e := en239) (p := none) (c := 0) hr AdsAt.nil) (by simp) (by simpa using hc) (by simp) (by simp) (by simp) (by simp [en239])
    rw [diff239] at this
    exact this hQ)
  have FW := Lib.hid (show ∀ W : World, Gives Tryz.prog 6 #[.agg (fls [.one (.int .i64 5), .many (adL ad239) 17, .one (.bool true), .one (.slice none 0 0), .one (.bool false)]).toArray] W (.tuple #[.string ⟨#[2, 0, 5, 239, 1, 1, 1, 0]⟩, .int .i64 0]) from fun W => by
    have h := dWrite_any (w := W) (x := ⟨en239, false⟩) (p := none) (c := 0) AdsAt.nil
    have hg : goodC ⟨en239, false⟩ = true := one239
    rw [hg, if_pos rfl, if_pos rfl, write239] at h
    exact h)
  have FG := Lib.hid (show ∀ (W : World) (g c : Nat), Row W g 29 (fls [.one (.int .i64 5), .many (adL ad239) 17, .one (.bool true), .one (.slice none 0 0)]).toArray → Gives Tryz.prog 24 #[.slice (some ⟨g, 0, none⟩) 1 c] W (.bool true) from fun W g c hr => by
    have h := dGood_any (c := c) (ens_one (e := en239) (p := none) (c := 0) hr AdsAt.nil)
    rw [goodD239] at h
    exact h)
  have HS := Lib.hid (show ∀ (W : World) (p : Option Addr), ChsAt W p [⟨en239, false⟩] → ∃ q, p = some q from fun W p h => by
    obtain ⟨q, s, c, h1, h2, h3⟩ := h.get (j := 0) (by simp)
    exact ⟨q, h1⟩)
  have HC := Lib.hid (show ∀ (W : World) (q : Addr), ChsAt W (some q) [⟨en239, false⟩] → W.cell? ⟨q.block, q.off + 20, none⟩ = some (.bool false) from fun W q h => by
    obtain ⟨q', s, c, h1, h2, h3⟩ := h.get (j := 0) (by simp)
    injection h1 with h1
    subst h1
    have := h2.cellS (j := 19) (v := .bool false) (by simp only [List.getElem_cons_zero]; rfl)
    rw [Nat.zero_mul, Addr_add0] at this
    exact this.1)
  generalize adL ad239 = A at *
  go_enter Tryz.func8, Tryz.ntmps8
  go_wp2_with (first | ((go_at_call 23; refine FD.out _ _ _ _ _ (by omega) (hH.rows.mem (i := 0) rfl).1 hH ?_; (clear hH; intro W pd cd Dd hd hDd hH); (try simp only [List.cons_append, List.nil_append] at hH); (obtain ⟨qd, rfl⟩ := HS.out _ _ (hd.out _ _ _ (hH.sub (SubH.drop (SubH.drop SubH.refl))))); ((try simp only [Act.put, List.setIfInBounds_toArray, List.set_cons_succ, List.set_cons_zero])))) | ((refine gL rfl ?_; refine hLd tab_ok rfl ?_ rfl hH rfl rfl ?_; (focus (first | exact wN rfl | exact rfl)); refine ⟨_, HC.out _ _ (hd.out _ _ _ (hH.sub ?_)), ?_⟩; (focus (repeat (first | exact SubH.refl | refine SubH.drop ?_))); (clear hH; (first | intro W g hH | intro W hH); (try simp only [Act.put, List.setIfInBounds_toArray, List.set_cons_succ, List.set_cons_zero])))) | ((go_at_call 24; refine callR0 0 hH rfl (fun hr => FG.out _ _ _ hr) ?_; (clear hH; (first | intro W g hH | intro W hH); (try simp only [Act.put, List.setIfInBounds_toArray, List.set_cons_succ, List.set_cons_zero])))) | ((refine hSl tab_ok rfl ?_ rfl tabs_ok rfl rfl rfl rfl rfl hH ?_; (focus (first | exact wN rfl | exact rfl)); refine ⟨?_, ?_, ?_⟩; rotate_left; (focus (repeat (first | exact BR.nil | refine BR.one rfl rfl rfl ?_ | (refine BR.row rfl rfl rfl rfl ?_ ?_; (focus (repeat (first | exact trivial | assumption | exact OkA.z (by kernel_rfl) (by kernel_rfl) | refine ⟨rfl, ?_⟩ | refine ⟨?_, ?_⟩))))))); clear hH; intro W g hH; (try simp only [Act.put, List.setIfInBounds_toArray, List.set_cons_succ, List.set_cons_zero]))) | ((first | (refine gL rfl ?_; first | (refine hL1 tab_ok 0 rfl ?_ rfl hH rfl rfl rfl rfl ?_; (focus (first | exact wN rfl | exact rfl))) | (refine hL1 tab_ok 1 rfl ?_ rfl hH rfl rfl rfl rfl ?_; (focus (first | exact wN rfl | exact rfl))) | (refine hL1 tab_ok 2 rfl ?_ rfl hH rfl rfl rfl rfl ?_; (focus (first | exact wN rfl | exact rfl))) | (refine hLR tab_ok 0 rfl ?_ rfl hH rfl rfl rfl rfl ?_; (focus (first | exact wN rfl | exact rfl))) | (refine hLR tab_ok 1 rfl ?_ rfl hH rfl rfl rfl rfl ?_; (focus (first | exact wN rfl | exact rfl))) | (refine hLR tab_ok 2 rfl ?_ rfl hH rfl rfl rfl rfl ?_; (focus (first | exact wN rfl | exact rfl))) | (refine hL1i tab_ok 0 rfl ?_ rfl hH rfl rfl rfl rfl ?_; (focus (first | exact wN rfl | exact rfl)); refine ⟨?_, ?_, ?_⟩; rotate_left; (focus assumption)) | (refine hL1i tab_ok 1 rfl ?_ rfl hH rfl rfl rfl rfl ?_; (focus (first | exact wN rfl | exact rfl)); refine ⟨?_, ?_, ?_⟩; rotate_left; (focus assumption)) | (refine hL1i tab_ok 2 rfl ?_ rfl hH rfl rfl rfl rfl ?_; (focus (first | exact wN rfl | exact rfl)); refine ⟨?_, ?_, ?_⟩; rotate_left; (focus assumption))) | (refine gS rfl ?_; first | (refine hS1 tab_ok 0 rfl ?_ rfl rfl hH rfl rfl rfl rfl rfl ?_; (focus (first | exact wN rfl | exact rfl))) | (refine hS1 tab_ok 1 rfl ?_ rfl rfl hH rfl rfl rfl rfl rfl ?_; (focus (first | exact wN rfl | exact rfl))) | (refine hS1 tab_ok 2 rfl ?_ rfl rfl hH rfl rfl rfl rfl rfl ?_; (focus (first | exact wN rfl | exact rfl))) | (refine hSR tab_ok 0 rfl ?_ rfl rfl hH rfl rfl rfl rfl rfl ?_ ?_; (focus (first | exact wN rfl | exact rfl)); (focus (repeat (first | exact trivial | assumption | exact OkA.z (by kernel_rfl) (by kernel_rfl) | refine ⟨rfl, ?_⟩ | refine ⟨?_, ?_⟩)))) | (refine hSR tab_ok 1 rfl ?_ rfl rfl hH rfl rfl rfl rfl rfl ?_ ?_; (focus (first | exact wN rfl | exact rfl)); (focus (repeat (first | exact trivial | assumption | exact OkA.z (by kernel_rfl) (by kernel_rfl) | refine ⟨rfl, ?_⟩ | refine ⟨?_, ?_⟩)))) | (refine hSR tab_ok 2 rfl ?_ rfl rfl hH rfl rfl rfl rfl rfl ?_ ?_; (focus (first | exact wN rfl | exact rfl)); (focus (repeat (first | exact trivial | assumption | exact OkA.z (by kernel_rfl) (by kernel_rfl) | refine ⟨rfl, ?_⟩ | refine ⟨?_, ?_⟩))))) | (refine hAl tab_ok rfl ?_ hH rfl ?_; (focus (first | exact wN rfl | exact rfl))) | (refine hBx1 rfl ?_ rfl hH ?_; (focus (first | exact wN rfl | exact rfl))) | (refine hBx rfl ?_ rfl hH ?_ ?_; (focus (first | exact wN rfl | exact rfl)); (focus (repeat (first | exact trivial | assumption | exact OkA.z (by kernel_rfl) (by kernel_rfl) | refine ⟨rfl, ?_⟩ | refine ⟨?_, ?_⟩)))) | (refine hBd tab_ok rfl ?_ rfl rfl rfl hH ?_; (focus (first | exact wN rfl | exact rfl)); refine ⟨?_, ?_, ?_⟩; rotate_left; (focus (repeat (first | exact BR.nil | refine BR.one rfl rfl rfl ?_ | (refine BR.row rfl rfl rfl rfl ?_ ?_; (focus (repeat (first | exact trivial | assumption | exact OkA.z (by kernel_rfl) (by kernel_rfl) | refine ⟨rfl, ?_⟩ | refine ⟨?_, ?_⟩)))))))) | ((with_reducible refine callH hH ?_); refine ⟨?_, ?_, ?_⟩; rotate_left; (focus (first | (with_reducible exact f4 _) | (exact FW.out _))))); clear hH; (first | intro W g hH | intro W hH); ((try simp only [Act.put, List.setIfInBounds_toArray, List.set_cons_succ, List.set_cons_zero]))))
  go_ret
  exact ⟨rfl, hH.below⟩
end
end Go.Proofs.YtjegjgdihpihoaaGreatDoor
