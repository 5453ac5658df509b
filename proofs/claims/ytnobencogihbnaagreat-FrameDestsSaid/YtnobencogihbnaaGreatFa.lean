/-
  To whom a talk is sent: package frame and its reference.
-/
import Derived.Test.YtnobencogihbnaaGreatGp
import Derived.Test.YtnobencogihbnaaGreatVp
import Derived.Test.YtnobencogihbnaaGreatTh5
import Derived.Test.YtnobencogihbnaaGreatTi4j
namespace Go.Proofs.YtnobencogihbnaaGreat
open Go.ChangeShapes Go.WideShapes Go.ChangeAt Go.RowKit
set_option linter.unusedVariables false
set_option linter.unusedSimpArgs false
set_option maxRecDepth 20000
attribute [local irreducible] wpList

/-- a group on the link, by its last byte -/
def onA (v6 : Bool) (last : UInt8) : Ad := if v6 then ⟨true, [255, 2, 0, 0, 0, 0, 0, 0, 0, 0, 0, 0, 0, 0, 0, last], rfl⟩ else ⟨false, [224, 0, 0, last, 0, 0, 0, 0, 0, 0, 0, 0, 0, 0, 0, 0], rfl⟩
def lastT (T : Tk) : Bool := T.ver == 3 || (T.v6 && T.ver == 2)
noncomputable def goodT (T : Tk) : Bool := if T.v6 then good6 T else good4 T
def destA (T : Tk) : Ad := if (T.kind == 1 && zeroA T.grp.b) = true then onA T.v6 1 else if (T.kind == 3) = true then onA T.v6 2 else if (T.kind == 2 && lastT T) = true then onA T.v6 22 else T.grp
section
variable {w : World} {sp rp : Option Addr} {sc rc : Nat} {T : Tk}
theorem iGoodF_any (h1 : AdsAt w sp T.src) (h2 : RcsAt w rp T.recs) : Gives Tryz.prog 43 #[.agg (fls (tkS T sp sc rp rc)).toArray] w (.bool (good4 T)) := by
  have F := Lib.hid (fun W' (hb : Below w.heap.size w W') => igood_any (T := T) (sc := sc) (rc := rc) (h1.below hb) (h2.below hb))
  refine Gives.of ?_
  have hH := Hp.refl w
  clear h1 h2
  generalize good4 T = g at *
  obtain ⟨v6, ver, kind, resp, G, quiet, rob, every, src, recs⟩ := T
  unfold tkS at *
  have oG := adL_ok G
  simp only at *
  generalize adL G = Y at *
  go_enter Tryz.func43, Tryz.ntmps43
  go_wp2_with (first | ((first | (refine gL rfl ?_; first | (refine hL1 tab_ok 0 rfl ?_ rfl hH rfl rfl rfl rfl ?_; (focus (first | exact wN rfl | exact rfl))) | (refine hL1 tab_ok 1 rfl ?_ rfl hH rfl rfl rfl rfl ?_; (focus (first | exact wN rfl | exact rfl))) | (refine hLR tab_ok 0 rfl ?_ rfl hH rfl rfl rfl rfl ?_; (focus (first | exact wN rfl | exact rfl))) | (refine hLR tab_ok 1 rfl ?_ rfl hH rfl rfl rfl rfl ?_; (focus (first | exact wN rfl | exact rfl))) | (refine hL1i tab_ok 0 rfl ?_ rfl hH rfl rfl rfl rfl ?_; (focus (first | exact wN rfl | exact rfl)); refine ⟨?_, ?_, ?_⟩; rotate_left; (focus assumption)) | (refine hL1i tab_ok 1 rfl ?_ rfl hH rfl rfl rfl rfl ?_; (focus (first | exact wN rfl | exact rfl)); refine ⟨?_, ?_, ?_⟩; rotate_left; (focus assumption))) | (refine gS rfl ?_; first | (refine hS1 tab_ok 0 rfl ?_ rfl rfl hH rfl rfl rfl rfl rfl ?_; (focus (first | exact wN rfl | exact rfl))) | (refine hS1 tab_ok 1 rfl ?_ rfl rfl hH rfl rfl rfl rfl rfl ?_; (focus (first | exact wN rfl | exact rfl))) | (refine hSR tab_ok 0 rfl ?_ rfl rfl hH rfl rfl rfl rfl rfl ?_ ?_; (focus (first | exact wN rfl | exact rfl)); (focus (repeat (first | exact trivial | assumption | exact OkA.z (by kernel_rfl) (by kernel_rfl) | refine ⟨rfl, ?_⟩ | refine ⟨?_, ?_⟩)))) | (refine hSR tab_ok 1 rfl ?_ rfl rfl hH rfl rfl rfl rfl rfl ?_ ?_; (focus (first | exact wN rfl | exact rfl)); (focus (repeat (first | exact trivial | assumption | exact OkA.z (by kernel_rfl) (by kernel_rfl) | refine ⟨rfl, ?_⟩ | refine ⟨?_, ?_⟩))))) | (refine hAl tab_ok rfl ?_ hH rfl ?_; (focus (first | exact wN rfl | exact rfl))) | (refine hBx1 rfl ?_ rfl hH ?_; (focus (first | exact wN rfl | exact rfl))) | (refine hBx rfl ?_ rfl hH ?_ ?_; (focus (first | exact wN rfl | exact rfl)); (focus (repeat (first | exact trivial | assumption | exact OkA.z (by kernel_rfl) (by kernel_rfl) | refine ⟨rfl, ?_⟩ | refine ⟨?_, ?_⟩)))) | (refine hBd tab_ok rfl ?_ rfl rfl rfl hH ?_; (focus (first | exact wN rfl | exact rfl)); refine ⟨?_, ?_, ?_⟩; rotate_left; (focus (repeat (first | exact BR.nil | refine BR.one rfl rfl rfl ?_ | (refine BR.row rfl rfl rfl rfl ?_ ?_; (focus (repeat (first | exact trivial | assumption | exact OkA.z (by kernel_rfl) (by kernel_rfl) | refine ⟨rfl, ?_⟩ | refine ⟨?_, ?_⟩)))))))) | ((with_reducible refine callH hH ?_); refine ⟨?_, ?_, ?_⟩; rotate_left; (focus (first | (exact F.out _ hH.below))))); clear hH; (first | intro W g hH | intro W hH); ((try simp only [Act.put, List.setIfInBounds_toArray, List.set_cons_succ, List.set_cons_zero]))))
  go_ret
  exact ⟨rfl, hH.below⟩
theorem goodTalk_any (h1 : AdsAt w sp T.src) (h2 : RcsAt w rp T.recs) : Gives Tryz.prog 19 #[.agg (fls (tkS T sp sc rp rc)).toArray] w (.bool (goodT T)) := by
  have F4 := Lib.hid (fun W' (hb : Below w.heap.size w W') => iGoodF_any (T := T) (sc := sc) (rc := rc) (h1.below hb) (h2.below hb))
  have F6 := Lib.hid (fun W' (hb : Below w.heap.size w W') => vGood_any (T := T) (sc := sc) (rc := rc) (h1.below hb) (h2.below hb))
  refine Gives.of ?_
  have hH := Hp.refl w
  clear h1 h2
  unfold goodT
  generalize good4 T = g4 at *
  generalize good6 T = g6 at *
  obtain ⟨v6, ver, kind, resp, G, quiet, rob, every, src, recs⟩ := T
  unfold tkS at *
  have oG := adL_ok G
  simp only at *
  generalize adL G = Y at *
  cases v6
  all_goals
    go_enter Tryz.func19, Tryz.ntmps19
    go_wp2_with (first | ((first | (refine gL rfl ?_; first | (refine hL1 tab_ok 0 rfl ?_ rfl hH rfl rfl rfl rfl ?_; (focus (first | exact wN rfl | exact rfl))) | (refine hL1 tab_ok 1 rfl ?_ rfl hH rfl rfl rfl rfl ?_; (focus (first | exact wN rfl | exact rfl))) | (refine hLR tab_ok 0 rfl ?_ rfl hH rfl rfl rfl rfl ?_; (focus (first | exact wN rfl | exact rfl))) | (refine hLR tab_ok 1 rfl ?_ rfl hH rfl rfl rfl rfl ?_; (focus (first | exact wN rfl | exact rfl))) | (refine hL1i tab_ok 0 rfl ?_ rfl hH rfl rfl rfl rfl ?_; (focus (first | exact wN rfl | exact rfl)); refine ⟨?_, ?_, ?_⟩; rotate_left; (focus assumption)) | (refine hL1i tab_ok 1 rfl ?_ rfl hH rfl rfl rfl rfl ?_; (focus (first | exact wN rfl | exact rfl)); refine ⟨?_, ?_, ?_⟩; rotate_left; (focus assumption))) | (refine gS rfl ?_; first | (refine hS1 tab_ok 0 rfl ?_ rfl rfl hH rfl rfl rfl rfl rfl ?_; (focus (first | exact wN rfl | exact rfl))) | (refine hS1 tab_ok 1 rfl ?_ rfl rfl hH rfl rfl rfl rfl rfl ?_; (focus (first | exact wN rfl | exact rfl))) | (refine hSR tab_ok 0 rfl ?_ rfl rfl hH rfl rfl rfl rfl rfl ?_ ?_; (focus (first | exact wN rfl | exact rfl)); (focus (repeat (first | exact trivial | assumption | exact OkA.z (by kernel_rfl) (by kernel_rfl) | refine ⟨rfl, ?_⟩ | refine ⟨?_, ?_⟩)))) | (refine hSR tab_ok 1 rfl ?_ rfl rfl hH rfl rfl rfl rfl rfl ?_ ?_; (focus (first | exact wN rfl | exact rfl)); (focus (repeat (first | exact trivial | assumption | exact OkA.z (by kernel_rfl) (by kernel_rfl) | refine ⟨rfl, ?_⟩ | refine ⟨?_, ?_⟩))))) | (refine hAl tab_ok rfl ?_ hH rfl ?_; (focus (first | exact wN rfl | exact rfl))) | (refine hBx1 rfl ?_ rfl hH ?_; (focus (first | exact wN rfl | exact rfl))) | (refine hBx rfl ?_ rfl hH ?_ ?_; (focus (first | exact wN rfl | exact rfl)); (focus (repeat (first | exact trivial | assumption | exact OkA.z (by kernel_rfl) (by kernel_rfl) | refine ⟨rfl, ?_⟩ | refine ⟨?_, ?_⟩)))) | (refine hBd tab_ok rfl ?_ rfl rfl rfl hH ?_; (focus (first | exact wN rfl | exact rfl)); refine ⟨?_, ?_, ?_⟩; rotate_left; (focus (repeat (first | exact BR.nil | refine BR.one rfl rfl rfl ?_ | (refine BR.row rfl rfl rfl rfl ?_ ?_; (focus (repeat (first | exact trivial | assumption | exact OkA.z (by kernel_rfl) (by kernel_rfl) | refine ⟨rfl, ?_⟩ | refine ⟨?_, ?_⟩)))))))) | ((with_reducible refine callH hH ?_); refine ⟨?_, ?_, ?_⟩; rotate_left; (focus (first | (exact F4.out _ hH.below) | (exact F6.out _ hH.below))))); clear hH; (first | intro W g hH | intro W hH); ((try simp only [Act.put, List.setIfInBounds_toArray, List.set_cons_succ, List.set_cons_zero]))))
    go_ret
    exact ⟨rfl, hH.below⟩
theorem refTalk_any (hT : T.Ok) (h1 : AdsAt w sp T.src) (h2 : RcsAt w rp T.recs) : Gives Tryz.prog 6 #[.agg (fls (tkS T sp sc rp rc)).toArray] w (.bool (goodT T)) := by
  have F4 := Lib.hid (fun W' (hb : Below w.heap.size w W') => rgood4_any (T := T) (sc := sc) (rc := rc) hT (h1.below hb) (h2.below hb))
  have F6 := Lib.hid (fun W' (hb : Below w.heap.size w W') => rgood6_any (T := T) (sc := sc) (rc := rc) hT (h1.below hb) (h2.below hb))
  refine Gives.of ?_
  have hH := Hp.refl w
  clear h1 h2 hT
  unfold goodT
  generalize good4 T = g4 at *
  generalize good6 T = g6 at *
  obtain ⟨v6, ver, kind, resp, G, quiet, rob, every, src, recs⟩ := T
  unfold tkS at *
  have oG := adL_ok G
  simp only at *
  generalize adL G = Y at *
  cases v6 <;> cases g4 <;> cases g6
  all_goals
    go_enter Tryz.func6, Tryz.ntmps6
    go_wp2_with (first | ((first | (refine gL rfl ?_; first | (refine hL1 tab_ok 0 rfl ?_ rfl hH rfl rfl rfl rfl ?_; (focus (first | exact wN rfl | exact rfl))) | (refine hL1 tab_ok 1 rfl ?_ rfl hH rfl rfl rfl rfl ?_; (focus (first | exact wN rfl | exact rfl))) | (refine hLR tab_ok 0 rfl ?_ rfl hH rfl rfl rfl rfl ?_; (focus (first | exact wN rfl | exact rfl))) | (refine hLR tab_ok 1 rfl ?_ rfl hH rfl rfl rfl rfl ?_; (focus (first | exact wN rfl | exact rfl))) | (refine hL1i tab_ok 0 rfl ?_ rfl hH rfl rfl rfl rfl ?_; (focus (first | exact wN rfl | exact rfl)); refine ⟨?_, ?_, ?_⟩; rotate_left; (focus assumption)) | (refine hL1i tab_ok 1 rfl ?_ rfl hH rfl rfl rfl rfl ?_; (focus (first | exact wN rfl | exact rfl)); refine ⟨?_, ?_, ?_⟩; rotate_left; (focus assumption))) | (refine gS rfl ?_; first | (refine hS1 tab_ok 0 rfl ?_ rfl rfl hH rfl rfl rfl rfl rfl ?_; (focus (first | exact wN rfl | exact rfl))) | (refine hS1 tab_ok 1 rfl ?_ rfl rfl hH rfl rfl rfl rfl rfl ?_; (focus (first | exact wN rfl | exact rfl))) | (refine hSR tab_ok 0 rfl ?_ rfl rfl hH rfl rfl rfl rfl rfl ?_ ?_; (focus (first | exact wN rfl | exact rfl)); (focus (repeat (first | exact trivial | assumption | exact OkA.z (by kernel_rfl) (by kernel_rfl) | refine ⟨rfl, ?_⟩ | refine ⟨?_, ?_⟩)))) | (refine hSR tab_ok 1 rfl ?_ rfl rfl hH rfl rfl rfl rfl rfl ?_ ?_; (focus (first | exact wN rfl | exact rfl)); (focus (repeat (first | exact trivial | assumption | exact OkA.z (by kernel_rfl) (by kernel_rfl) | refine ⟨rfl, ?_⟩ | refine ⟨?_, ?_⟩))))) | (refine hAl tab_ok rfl ?_ hH rfl ?_; (focus (first | exact wN rfl | exact rfl))) | (refine hBx1 rfl ?_ rfl hH ?_; (focus (first | exact wN rfl | exact rfl))) | (refine hBx rfl ?_ rfl hH ?_ ?_; (focus (first | exact wN rfl | exact rfl)); (focus (repeat (first | exact trivial | assumption | exact OkA.z (by kernel_rfl) (by kernel_rfl) | refine ⟨rfl, ?_⟩ | refine ⟨?_, ?_⟩)))) | (refine hBd tab_ok rfl ?_ rfl rfl rfl hH ?_; (focus (first | exact wN rfl | exact rfl)); refine ⟨?_, ?_, ?_⟩; rotate_left; (focus (repeat (first | exact BR.nil | refine BR.one rfl rfl rfl ?_ | (refine BR.row rfl rfl rfl rfl ?_ ?_; (focus (repeat (first | exact trivial | assumption | exact OkA.z (by kernel_rfl) (by kernel_rfl) | refine ⟨rfl, ?_⟩ | refine ⟨?_, ?_⟩)))))))) | ((with_reducible refine callH hH ?_); refine ⟨?_, ?_, ?_⟩; rotate_left; (focus (first | (exact F4.out _ hH.below) | (exact F6.out _ hH.below))))); clear hH; (first | intro W g hH | intro W hH); ((try simp only [Act.put, List.setIfInBounds_toArray, List.set_cons_succ, List.set_cons_zero]))))
    go_ret
    exact ⟨rfl, hH.below⟩
end
section
variable {P : Program} {T : Tab} {B : Nat} {w0 W : World} {H : HB} {g : Nat} {t ty : TypeId} {b : Bool} {S S2 : List Seg} {e : TyE}
variable {ops : Array Oper} {rest : List Oper} {op : Oper} {a : Act} {Q : Exit → Act → World → Prop} {x s y : Operand} {n c m p o : Nat} {A : List Value} {v u : Value}
theorem updF_ex : ∀ {H : HB} {i : Nat} {r}, nthH H i = some r → ∀ S', ∃ H', updH H i S' = some H'
  | [], _, _, h, _ => by simp [nthH] at h
  | r :: H, 0, _, _, S' => ⟨_, rfl⟩
  | r :: H, i + 1, _, h, S' => by
    obtain ⟨H', h⟩ := updF_ex (H := H) (i := i) (by simpa [nthH] using h) S'
    exact ⟨r :: H', by simp only [updH]; rw [h]⟩
/-- a store into one cell behind the first of a block -/
theorem hSx1Z (hT : TabOk P T) (i : Nat) (ho : op.op = .store ty x y) (hw : Region.wanted op (yielded ops a.tmps) = true) (hx : a.eval x = .pointer (some ⟨g, o, none⟩)) (hy : one1 (a.eval y) = some v) (hH : Hp B w0 W H) (hi : nthH H i = some (g, t, true, .one u :: .many A p :: S))
    (hty : findT ty T = some e) (hr : e.size = 1) (h : 1 ≤ o ∧ o - 1 < p ∧ ∀ W' H', OkA (A.set (o - 1) v) p → updH H i (.one u :: .many (A.set (o - 1) v) p :: S) = some H' → Hp B w0 W' H' → wpList P ops Q rest (a.put op.dst undef) W') : wpList P ops Q (op :: rest) a W := by
  obtain ⟨h0, hk, h⟩ := h
  obtain ⟨k, rfl⟩ : ∃ k, o = k + 1 := ⟨o - 1, by omega⟩
  rw [Nat.add_sub_cancel] at *
  obtain ⟨hy, h1⟩ := one1_ok hy
  obtain ⟨hr1, hS, _⟩ := hH.rows.mem hi
  have hA : OkA A p := hS.2.1
  have hlt : k < A.length := by rw [hA.1]; exact hk
  have hlt2 : k + 1 < (fls (.one u :: .many A p :: S)).length := by simp [fls]; omega
  obtain ⟨H', hu⟩   := updF_ex hi (.one u :: .many (A.set k v) p :: S)
  have hok : OkA (A.set k v) p := ⟨by rw [List.length_set]; exact hA.1, fun z hz => by
    rcases List.mem_or_eq_of_mem_set hz with h | rfl
    · exact hA.2 z h
    · exact h1⟩
  have hl := run_store1 (P := P) (W := W) (by rw [(hT.find hty).size, hr]) (g := g) (o := k + 1) h1 (by rw [hr1.cell, List.getElem?_toArray, List.getElem?_eq_getElem hlt2]; rfl) (hr1.frozen (k + 1))
  unfold wpList
  rw [if_pos hw]
  refine Or.inl ?_
  unfold Oper.wp execOp
  simp only [ho, hx, hy, Sem.run_bind, hl, Result.andThen_ok, Sem.run_pure]
  refine h _ H' hok hu (hH.upd hi hu ⟨hS.1, hok, hS.2.2⟩ ?_ (gb_set (World.grownBy.refl W _) (k + 1) v))
  have := hr1.set (k + 1) v
  rw [List.setIfInBounds_toArray] at this
  rwa [show (fls (.one u :: .many A p :: S)).set (k + 1) v = fls (.one u :: .many (A.set k v) p :: S) by simp only [fls, List.set_cons_succ]; rw [List.set_append_left _ _ hlt]] at this
end
section
variable {w : World} {sp rp : Option Addr} {sc rc : Nat} {T : Tk}
theorem far_any {b : UInt8} : Gives Tryz.prog 21 #[.int .u8 (b.toNat : Int)] w (.agg (fls [.many (adL (onA true b)) 17]).toArray) := by
  refine Gives.of ?_
  have hH := Hp.refl w
  have e1 : (fls [.many (adL (onA true b)) 17]).toArray = (fls [.one (.bool true), .many [.int .u8 255, .int .u8 2, .int .u8 0, .int .u8 0, .int .u8 0, .int .u8 0, .int .u8 0, .int .u8 0, .int .u8 0, .int .u8 0, .int .u8 0, .int .u8 0, .int .u8 0, .int .u8 0, .int .u8 0, .int .u8 (b.toNat : Int)] 16]).toArray := rfl
  rw [e1]
  generalize (b.toNat : Int) = k at *
  go_enter Tryz.func21, Tryz.ntmps21
  go_wp2_with (first | ((first | (refine gL rfl ?_; first | (refine hL1 tab_ok 0 rfl ?_ rfl hH rfl rfl rfl rfl ?_; (focus (first | exact wN rfl | exact rfl))) | (refine hL1 tab_ok 1 rfl ?_ rfl hH rfl rfl rfl rfl ?_; (focus (first | exact wN rfl | exact rfl))) | (refine hLR tab_ok 0 rfl ?_ rfl hH rfl rfl rfl rfl ?_; (focus (first | exact wN rfl | exact rfl))) | (refine hLR tab_ok 1 rfl ?_ rfl hH rfl rfl rfl rfl ?_; (focus (first | exact wN rfl | exact rfl))) | (refine hL1i tab_ok 0 rfl ?_ rfl hH rfl rfl rfl rfl ?_; (focus (first | exact wN rfl | exact rfl)); refine ⟨?_, ?_, ?_⟩; rotate_left; (focus assumption)) | (refine hL1i tab_ok 1 rfl ?_ rfl hH rfl rfl rfl rfl ?_; (focus (first | exact wN rfl | exact rfl)); refine ⟨?_, ?_, ?_⟩; rotate_left; (focus assumption))) | (refine gS rfl ?_; first | (refine hS1 tab_ok 0 rfl ?_ rfl rfl hH rfl rfl rfl rfl rfl ?_; (focus (first | exact wN rfl | exact rfl))) | (refine hS1 tab_ok 1 rfl ?_ rfl rfl hH rfl rfl rfl rfl rfl ?_; (focus (first | exact wN rfl | exact rfl))) | (refine hSR tab_ok 0 rfl ?_ rfl rfl hH rfl rfl rfl rfl rfl ?_ ?_; (focus (first | exact wN rfl | exact rfl)); (focus (repeat (first | exact trivial | assumption | exact OkA.z (by kernel_rfl) (by kernel_rfl) | refine ⟨rfl, ?_⟩ | refine ⟨?_, ?_⟩)))) | (refine hSR tab_ok 1 rfl ?_ rfl rfl hH rfl rfl rfl rfl rfl ?_ ?_; (focus (first | exact wN rfl | exact rfl)); (focus (repeat (first | exact trivial | assumption | exact OkA.z (by kernel_rfl) (by kernel_rfl) | refine ⟨rfl, ?_⟩ | refine ⟨?_, ?_⟩))))) | (refine hAl tab_ok rfl ?_ hH rfl ?_; (focus (first | exact wN rfl | exact rfl))) | (refine hBx1 rfl ?_ rfl hH ?_; (focus (first | exact wN rfl | exact rfl))) | (refine hBx rfl ?_ rfl hH ?_ ?_; (focus (first | exact wN rfl | exact rfl)); (focus (repeat (first | exact trivial | assumption | exact OkA.z (by kernel_rfl) (by kernel_rfl) | refine ⟨rfl, ?_⟩ | refine ⟨?_, ?_⟩)))) | (refine hBd tab_ok rfl ?_ rfl rfl rfl hH ?_; (focus (first | exact wN rfl | exact rfl)); refine ⟨?_, ?_, ?_⟩; rotate_left; (focus (repeat (first | exact BR.nil | refine BR.one rfl rfl rfl ?_ | (refine BR.row rfl rfl rfl rfl ?_ ?_; (focus (repeat (first | exact trivial | assumption | exact OkA.z (by kernel_rfl) (by kernel_rfl) | refine ⟨rfl, ?_⟩ | refine ⟨?_, ?_⟩))))))))); clear hH; (first | intro W g hH | intro W hH); ((try simp only [Act.put, List.setIfInBounds_toArray, List.set_cons_succ, List.set_cons_zero]))))
  (first | refine retC Tryz.results21 tab_ok 0 rfl rfl hH rfl rfl rfl rfl ?_ | refine retC Tryz.results21 tab_ok 1 rfl rfl hH rfl rfl rfl rfl ?_)
  exact ⟨rfl, hH.below⟩
theorem near_any {b : UInt8} : Gives Tryz.prog 22 #[.int .u8 (b.toNat : Int)] w (.agg (fls [.many (adL (onA false b)) 17]).toArray) := by
  refine Gives.of ?_
  have hH := Hp.refl w
  have f : ∀ w, Gives Tryz.prog 44 #[.int .u8 224, .int .u8 0, .int .u8 0, .int .u8 (b.toNat : Int)] w (.agg (fls [.many (adL (onA false b)) 17]).toArray) := fun w => aIp4_any (a := 224) (b := 0) (c := 0) (d := b)
  have oN := adL_ok (onA false b)
  generalize adL (onA false b) = Y at *
  generalize (b.toNat : Int) = k at *
  go_enter Tryz.func22, Tryz.ntmps22
  go_wp2_with (first | ((first | (refine gL rfl ?_; first | (refine hL1 tab_ok 0 rfl ?_ rfl hH rfl rfl rfl rfl ?_; (focus (first | exact wN rfl | exact rfl))) | (refine hL1 tab_ok 1 rfl ?_ rfl hH rfl rfl rfl rfl ?_; (focus (first | exact wN rfl | exact rfl))) | (refine hLR tab_ok 0 rfl ?_ rfl hH rfl rfl rfl rfl ?_; (focus (first | exact wN rfl | exact rfl))) | (refine hLR tab_ok 1 rfl ?_ rfl hH rfl rfl rfl rfl ?_; (focus (first | exact wN rfl | exact rfl))) | (refine hL1i tab_ok 0 rfl ?_ rfl hH rfl rfl rfl rfl ?_; (focus (first | exact wN rfl | exact rfl)); refine ⟨?_, ?_, ?_⟩; rotate_left; (focus assumption)) | (refine hL1i tab_ok 1 rfl ?_ rfl hH rfl rfl rfl rfl ?_; (focus (first | exact wN rfl | exact rfl)); refine ⟨?_, ?_, ?_⟩; rotate_left; (focus assumption))) | (refine gS rfl ?_; first | (refine hS1 tab_ok 0 rfl ?_ rfl rfl hH rfl rfl rfl rfl rfl ?_; (focus (first | exact wN rfl | exact rfl))) | (refine hS1 tab_ok 1 rfl ?_ rfl rfl hH rfl rfl rfl rfl rfl ?_; (focus (first | exact wN rfl | exact rfl))) | (refine hSR tab_ok 0 rfl ?_ rfl rfl hH rfl rfl rfl rfl rfl ?_ ?_; (focus (first | exact wN rfl | exact rfl)); (focus (repeat (first | exact trivial | assumption | exact OkA.z (by kernel_rfl) (by kernel_rfl) | refine ⟨rfl, ?_⟩ | refine ⟨?_, ?_⟩)))) | (refine hSR tab_ok 1 rfl ?_ rfl rfl hH rfl rfl rfl rfl rfl ?_ ?_; (focus (first | exact wN rfl | exact rfl)); (focus (repeat (first | exact trivial | assumption | exact OkA.z (by kernel_rfl) (by kernel_rfl) | refine ⟨rfl, ?_⟩ | refine ⟨?_, ?_⟩))))) | (refine hAl tab_ok rfl ?_ hH rfl ?_; (focus (first | exact wN rfl | exact rfl))) | (refine hBx1 rfl ?_ rfl hH ?_; (focus (first | exact wN rfl | exact rfl))) | (refine hBx rfl ?_ rfl hH ?_ ?_; (focus (first | exact wN rfl | exact rfl)); (focus (repeat (first | exact trivial | assumption | exact OkA.z (by kernel_rfl) (by kernel_rfl) | refine ⟨rfl, ?_⟩ | refine ⟨?_, ?_⟩)))) | (refine hBd tab_ok rfl ?_ rfl rfl rfl hH ?_; (focus (first | exact wN rfl | exact rfl)); refine ⟨?_, ?_, ?_⟩; rotate_left; (focus (repeat (first | exact BR.nil | refine BR.one rfl rfl rfl ?_ | (refine BR.row rfl rfl rfl rfl ?_ ?_; (focus (repeat (first | exact trivial | assumption | exact OkA.z (by kernel_rfl) (by kernel_rfl) | refine ⟨rfl, ?_⟩ | refine ⟨?_, ?_⟩)))))))) | ((with_reducible refine callH hH ?_); refine ⟨?_, ?_, ?_⟩; rotate_left; (focus (first | (with_reducible exact f _))))); clear hH; (first | intro W g hH | intro W hH); ((try simp only [Act.put, List.setIfInBounds_toArray, List.set_cons_succ, List.set_cons_zero]))))
  (first | refine retC Tryz.results22 tab_ok 0 rfl rfl hH rfl rfl rfl rfl ?_ | refine retC Tryz.results22 tab_ok 1 rfl rfl hH rfl rfl rfl rfl ?_)
  exact ⟨rfl, hH.below⟩
theorem on_any {v : Bool} {b : UInt8} : Gives Tryz.prog 17 #[.bool v, .int .u8 (b.toNat : Int)] w (.agg (fls [.many (adL (onA v b)) 17]).toArray) := by
  refine Gives.of ?_
  have hH := Hp.refl w
  have oZ : OkA (zeroL Tryz.prog 22) 16 := OkA.z (by kernel_rfl) (by kernel_rfl)
  have e0 := Lib.hid (show ∀ k : Int, (fls [.one (.bool false), .many (((zeroL Tryz.prog 22).set 0 (.int .u8 224)).set 3 (.int .u8 k)) 16]).toArray = (fls [.one (.bool false), .many [.int .u8 224, .int .u8 0, .int .u8 0, .int .u8 k, .int .u8 0, .int .u8 0, .int .u8 0, .int .u8 0, .int .u8 0, .int .u8 0, .int .u8 0, .int .u8 0, .int .u8 0, .int .u8 0, .int .u8 0, .int .u8 0] 16]).toArray from fun k => by kernel_rfl)
  have e1 := Lib.hid (show ∀ k : Int, (fls [.one (.bool true), .many ((((zeroL Tryz.prog 22).set 0 (.int .u8 255)).set 1 (.int .u8 2)).set 15 (.int .u8 k)) 16]).toArray = (fls [.one (.bool true), .many [.int .u8 255, .int .u8 2, .int .u8 0, .int .u8 0, .int .u8 0, .int .u8 0, .int .u8 0, .int .u8 0, .int .u8 0, .int .u8 0, .int .u8 0, .int .u8 0, .int .u8 0, .int .u8 0, .int .u8 0, .int .u8 k] 16]).toArray from fun k => by kernel_rfl)
  generalize hZ0 : zeroL Tryz.prog 22 = Z at *
  have HZ := Lib.hid hZ0
  clear hZ0
  cases v
  · have e2 : (fls [.many (adL (onA false b)) 17]).toArray = (fls [.one (.bool false), .many [.int .u8 224, .int .u8 0, .int .u8 0, .int .u8 (b.toNat : Int), .int .u8 0, .int .u8 0, .int .u8 0, .int .u8 0, .int .u8 0, .int .u8 0, .int .u8 0, .int .u8 0, .int .u8 0, .int .u8 0, .int .u8 0, .int .u8 0] 16]).toArray := rfl
    rw [e2, ← e0.out]
    generalize (b.toNat : Int) = k at *
    go_enter Tryz.func17, Tryz.ntmps17
    go_wp2_with (first | ((refine gS rfl ?_; refine hSx1Z tab_ok 0 rfl ?_ rfl rfl hH rfl rfl rfl ?_; (focus (first | exact wN rfl | exact rfl)); refine ⟨?_, ?_, ?_⟩; (focus (first | decide | omega)); (focus (first | decide | omega)); intro W H' oA' hu h; (obtain rfl := Option.some.inj hu); clear hu hH; have hH := h; clear h; ((try simp only [Act.put, List.setIfInBounds_toArray, List.set_cons_succ, List.set_cons_zero])))) | ((first | (refine gL rfl ?_; first | (refine hL1 tab_ok 0 rfl ?_ rfl hH rfl rfl rfl rfl ?_; (focus (first | exact wN rfl | exact rfl))) | (refine hL1 tab_ok 1 rfl ?_ rfl hH rfl rfl rfl rfl ?_; (focus (first | exact wN rfl | exact rfl))) | (refine hL1 tab_ok 2 rfl ?_ rfl hH rfl rfl rfl rfl ?_; (focus (first | exact wN rfl | exact rfl))) | (refine hLR tab_ok 0 rfl ?_ rfl hH rfl rfl rfl rfl ?_; (focus (first | exact wN rfl | exact rfl))) | (refine hLR tab_ok 1 rfl ?_ rfl hH rfl rfl rfl rfl ?_; (focus (first | exact wN rfl | exact rfl))) | (refine hLR tab_ok 2 rfl ?_ rfl hH rfl rfl rfl rfl ?_; (focus (first | exact wN rfl | exact rfl))) | (refine hL1i tab_ok 0 rfl ?_ rfl hH rfl rfl rfl rfl ?_; (focus (first | exact wN rfl | exact rfl)); refine ⟨?_, ?_, ?_⟩; rotate_left; (focus assumption)) | (refine hL1i tab_ok 1 rfl ?_ rfl hH rfl rfl rfl rfl ?_; (focus (first | exact wN rfl | exact rfl)); refine ⟨?_, ?_, ?_⟩; rotate_left; (focus assumption)) | (refine hL1i tab_ok 2 rfl ?_ rfl hH rfl rfl rfl rfl ?_; (focus (first | exact wN rfl | exact rfl)); refine ⟨?_, ?_, ?_⟩; rotate_left; (focus assumption))) | (refine gS rfl ?_; first | (refine hS1 tab_ok 0 rfl ?_ rfl rfl hH rfl rfl rfl rfl rfl ?_; (focus (first | exact wN rfl | exact rfl))) | (refine hS1 tab_ok 1 rfl ?_ rfl rfl hH rfl rfl rfl rfl rfl ?_; (focus (first | exact wN rfl | exact rfl))) | (refine hS1 tab_ok 2 rfl ?_ rfl rfl hH rfl rfl rfl rfl rfl ?_; (focus (first | exact wN rfl | exact rfl))) | (refine hSR tab_ok 0 rfl ?_ rfl rfl hH rfl rfl rfl rfl rfl ?_ ?_; (focus (first | exact wN rfl | exact rfl)); (focus (repeat (first | exact trivial | assumption | exact OkA.z (by kernel_rfl) (by kernel_rfl) | refine ⟨rfl, ?_⟩ | refine ⟨?_, ?_⟩)))) | (refine hSR tab_ok 1 rfl ?_ rfl rfl hH rfl rfl rfl rfl rfl ?_ ?_; (focus (first | exact wN rfl | exact rfl)); (focus (repeat (first | exact trivial | assumption | exact OkA.z (by kernel_rfl) (by kernel_rfl) | refine ⟨rfl, ?_⟩ | refine ⟨?_, ?_⟩)))) | (refine hSR tab_ok 2 rfl ?_ rfl rfl hH rfl rfl rfl rfl rfl ?_ ?_; (focus (first | exact wN rfl | exact rfl)); (focus (repeat (first | exact trivial | assumption | exact OkA.z (by kernel_rfl) (by kernel_rfl) | refine ⟨rfl, ?_⟩ | refine ⟨?_, ?_⟩))))) | (refine hAl tab_ok rfl ?_ hH rfl ?_; (focus (first | exact wN rfl | exact rfl))) | (refine hBx1 rfl ?_ rfl hH ?_; (focus (first | exact wN rfl | exact rfl))) | (refine hBx rfl ?_ rfl hH ?_ ?_; (focus (first | exact wN rfl | exact rfl)); (focus (repeat (first | exact trivial | assumption | exact OkA.z (by kernel_rfl) (by kernel_rfl) | refine ⟨rfl, ?_⟩ | refine ⟨?_, ?_⟩)))) | (refine hBd tab_ok rfl ?_ rfl rfl rfl hH ?_; (focus (first | exact wN rfl | exact rfl)); refine ⟨?_, ?_, ?_⟩; rotate_left; (focus (repeat (first | exact BR.nil | refine BR.one rfl rfl rfl ?_ | (refine BR.row rfl rfl rfl rfl ?_ ?_; (focus (repeat (first | exact trivial | assumption | exact OkA.z (by kernel_rfl) (by kernel_rfl) | refine ⟨rfl, ?_⟩ | refine ⟨?_, ?_⟩))))))))); clear hH; (first | intro W g hH | intro W hH); ((try simp only [Act.put, List.setIfInBounds_toArray, List.set_cons_succ, List.set_cons_zero]))))
    (first | refine retC Tryz.results17 tab_ok 0 rfl rfl hH rfl rfl rfl rfl ?_ | refine retC Tryz.results17 tab_ok 1 rfl rfl hH rfl rfl rfl rfl ?_ | refine retC Tryz.results17 tab_ok 2 rfl rfl hH rfl rfl rfl rfl ?_)
    exact ⟨by have h := HZ.out; subst h; rfl, hH.below⟩
  · have e2 : (fls [.many (adL (onA true b)) 17]).toArray = (fls [.one (.bool true), .many [.int .u8 255, .int .u8 2, .int .u8 0, .int .u8 0, .int .u8 0, .int .u8 0, .int .u8 0, .int .u8 0, .int .u8 0, .int .u8 0, .int .u8 0, .int .u8 0, .int .u8 0, .int .u8 0, .int .u8 0, .int .u8 (b.toNat : Int)] 16]).toArray := rfl
    rw [e2, ← e1.out]
    generalize (b.toNat : Int) = k at *
    go_enter Tryz.func17, Tryz.ntmps17
    go_wp2_with (first | ((refine gS rfl ?_; refine hSx1Z tab_ok 0 rfl ?_ rfl rfl hH rfl rfl rfl ?_; (focus (first | exact wN rfl | exact rfl)); refine ⟨?_, ?_, ?_⟩; (focus (first | decide | omega)); (focus (first | decide | omega)); intro W H' oA' hu h; (obtain rfl := Option.some.inj hu); clear hu hH; have hH := h; clear h; ((try simp only [Act.put, List.setIfInBounds_toArray, List.set_cons_succ, List.set_cons_zero])))) | ((first | (refine gL rfl ?_; first | (refine hL1 tab_ok 0 rfl ?_ rfl hH rfl rfl rfl rfl ?_; (focus (first | exact wN rfl | exact rfl))) | (refine hL1 tab_ok 1 rfl ?_ rfl hH rfl rfl rfl rfl ?_; (focus (first | exact wN rfl | exact rfl))) | (refine hL1 tab_ok 2 rfl ?_ rfl hH rfl rfl rfl rfl ?_; (focus (first | exact wN rfl | exact rfl))) | (refine hLR tab_ok 0 rfl ?_ rfl hH rfl rfl rfl rfl ?_; (focus (first | exact wN rfl | exact rfl))) | (refine hLR tab_ok 1 rfl ?_ rfl hH rfl rfl rfl rfl ?_; (focus (first | exact wN rfl | exact rfl))) | (refine hLR tab_ok 2 rfl ?_ rfl hH rfl rfl rfl rfl ?_; (focus (first | exact wN rfl | exact rfl))) | (refine hL1i tab_ok 0 rfl ?_ rfl hH rfl rfl rfl rfl ?_; (focus (first | exact wN rfl | exact rfl)); refine ⟨?_, ?_, ?_⟩; rotate_left; (focus assumption)) | (refine hL1i tab_ok 1 rfl ?_ rfl hH rfl rfl rfl rfl ?_; (focus (first | exact wN rfl | exact rfl)); refine ⟨?_, ?_, ?_⟩; rotate_left; (focus assumption)) | (refine hL1i tab_ok 2 rfl ?_ rfl hH rfl rfl rfl rfl ?_; (focus (first | exact wN rfl | exact rfl)); refine ⟨?_, ?_, ?_⟩; rotate_left; (focus assumption))) | (refine gS rfl ?_; first | (refine hS1 tab_ok 0 rfl ?_ rfl rfl hH rfl rfl rfl rfl rfl ?_; (focus (first | exact wN rfl | exact rfl))) | (refine hS1 tab_ok 1 rfl ?_ rfl rfl hH rfl rfl rfl rfl rfl ?_; (focus (first | exact wN rfl | exact rfl))) | (refine hS1 tab_ok 2 rfl ?_ rfl rfl hH rfl rfl rfl rfl rfl ?_; (focus (first | exact wN rfl | exact rfl))) | (refine hSR tab_ok 0 rfl ?_ rfl rfl hH rfl rfl rfl rfl rfl ?_ ?_; (focus (first | exact wN rfl | exact rfl)); (focus (repeat (first | exact trivial | assumption | exact OkA.z (by kernel_rfl) (by kernel_rfl) | refine ⟨rfl, ?_⟩ | refine ⟨?_, ?_⟩)))) | (refine hSR tab_ok 1 rfl ?_ rfl rfl hH rfl rfl rfl rfl rfl ?_ ?_; (focus (first | exact wN rfl | exact rfl)); (focus (repeat (first | exact trivial | assumption | exact OkA.z (by kernel_rfl) (by kernel_rfl) | refine ⟨rfl, ?_⟩ | refine ⟨?_, ?_⟩)))) | (refine hSR tab_ok 2 rfl ?_ rfl rfl hH rfl rfl rfl rfl rfl ?_ ?_; (focus (first | exact wN rfl | exact rfl)); (focus (repeat (first | exact trivial | assumption | exact OkA.z (by kernel_rfl) (by kernel_rfl) | refine ⟨rfl, ?_⟩ | refine ⟨?_, ?_⟩))))) | (refine hAl tab_ok rfl ?_ hH rfl ?_; (focus (first | exact wN rfl | exact rfl))) | (refine hBx1 rfl ?_ rfl hH ?_; (focus (first | exact wN rfl | exact rfl))) | (refine hBx rfl ?_ rfl hH ?_ ?_; (focus (first | exact wN rfl | exact rfl)); (focus (repeat (first | exact trivial | assumption | exact OkA.z (by kernel_rfl) (by kernel_rfl) | refine ⟨rfl, ?_⟩ | refine ⟨?_, ?_⟩)))) | (refine hBd tab_ok rfl ?_ rfl rfl rfl hH ?_; (focus (first | exact wN rfl | exact rfl)); refine ⟨?_, ?_, ?_⟩; rotate_left; (focus (repeat (first | exact BR.nil | refine BR.one rfl rfl rfl ?_ | (refine BR.row rfl rfl rfl rfl ?_ ?_; (focus (repeat (first | exact trivial | assumption | exact OkA.z (by kernel_rfl) (by kernel_rfl) | refine ⟨rfl, ?_⟩ | refine ⟨?_, ?_⟩))))))))); clear hH; (first | intro W g hH | intro W hH); ((try simp only [Act.put, List.setIfInBounds_toArray, List.set_cons_succ, List.set_cons_zero]))))
    (first | refine retC Tryz.results17 tab_ok 0 rfl rfl hH rfl rfl rfl rfl ?_ | refine retC Tryz.results17 tab_ok 1 rfl rfl hH rfl rfl rfl rfl ?_ | refine retC Tryz.results17 tab_ok 2 rfl rfl hH rfl rfl rfl rfl ?_)
    exact ⟨by have h := HZ.out; subst h; rfl, hH.below⟩
set_option maxHeartbeats 8000000 in
theorem dest_any (h1 : AdsAt w sp T.src) (h2 : RcsAt w rp T.recs) : Gives Tryz.prog 11 #[.agg (fls (tkS T sp sc rp rc)).toArray] w (.tuple #[.agg (fls [.many (adL (if goodT T then destA T else Ad.z)) 17]).toArray, .bool (goodT T)]) := by
  have FG := Lib.hid (fun W' (hb : Below w.heap.size w W') => goodTalk_any (T := T) (sc := sc) (rc := rc) (h1.below hb) (h2.below hb))
  refine Gives.of ?_
  have hH := Hp.refl w
  clear h1 h2
  have fz : ∀ w, Gives Tryz.prog 20 #[.agg (fls [.many (adL T.grp) 17]).toArray] w (.bool (zeroA T.grp.b)) := fun w => by rw [← rg_segs]; exact aZero_any T.grp.h
  have f1 : ∀ w, Gives Tryz.prog 21 #[.int .u8 1] w (.agg (fls [.many (adL (onA true 1)) 17]).toArray) := fun w => far_any (b := 1)
  have f2 : ∀ w, Gives Tryz.prog 21 #[.int .u8 2] w (.agg (fls [.many (adL (onA true 2)) 17]).toArray) := fun w => far_any (b := 2)
  have f3 : ∀ w, Gives Tryz.prog 21 #[.int .u8 22] w (.agg (fls [.many (adL (onA true 22)) 17]).toArray) := fun w => far_any (b := 22)
  have n1 : ∀ w, Gives Tryz.prog 22 #[.int .u8 1] w (.agg (fls [.many (adL (onA false 1)) 17]).toArray) := fun w => near_any (b := 1)
  have n2 : ∀ w, Gives Tryz.prog 22 #[.int .u8 2] w (.agg (fls [.many (adL (onA false 2)) 17]).toArray) := fun w => near_any (b := 2)
  have n3 : ∀ w, Gives Tryz.prog 22 #[.int .u8 22] w (.agg (fls [.many (adL (onA false 22)) 17]).toArray) := fun w => near_any (b := 22)
  obtain ⟨v6, ver, kind, resp, G, quiet, rob, every, src, recs⟩ := T
  have oG := adL_ok G
  have a1 := adL_ok (onA true 1)
  have a2 := adL_ok (onA true 2)
  have a3 := adL_ok (onA true 22)
  have b1 := adL_ok (onA false 1)
  have b2 := adL_ok (onA false 2)
  have b3 := adL_ok (onA false 22)
  have oZ := adL_ok Ad.z
  have eZ := adL_z
  generalize goodT ⟨v6, ver, kind, resp, G, quiet, rob, every, src, recs⟩ = gd at *
  unfold destA lastT
  unfold tkS at *
  simp only at *
  generalize zeroA G.b = z at *
  cases gd
  · have hzz : adL (if false = true then (if (kind == 1 && z) = true then onA v6 1 else if (kind == 3) = true then onA v6 2 else if (kind == 2 && (ver == 3 || v6 && ver == 2)) = true then onA v6 22 else G) else Ad.z) = adL Ad.z := rfl
    rw [hzz]
    generalize adL G = Y at *
    rw [eZ]
    go_enter Tryz.func11, Tryz.ntmps11
    go_wp2_with (first | ((first | (refine gL rfl ?_; first | (refine hL1 tab_ok 0 rfl ?_ rfl hH rfl rfl rfl rfl ?_; (focus (first | exact wN rfl | exact rfl))) | (refine hL1 tab_ok 1 rfl ?_ rfl hH rfl rfl rfl rfl ?_; (focus (first | exact wN rfl | exact rfl))) | (refine hL1 tab_ok 2 rfl ?_ rfl hH rfl rfl rfl rfl ?_; (focus (first | exact wN rfl | exact rfl))) | (refine hLR tab_ok 0 rfl ?_ rfl hH rfl rfl rfl rfl ?_; (focus (first | exact wN rfl | exact rfl))) | (refine hLR tab_ok 1 rfl ?_ rfl hH rfl rfl rfl rfl ?_; (focus (first | exact wN rfl | exact rfl))) | (refine hLR tab_ok 2 rfl ?_ rfl hH rfl rfl rfl rfl ?_; (focus (first | exact wN rfl | exact rfl))) | (refine hL1i tab_ok 0 rfl ?_ rfl hH rfl rfl rfl rfl ?_; (focus (first | exact wN rfl | exact rfl)); refine ⟨?_, ?_, ?_⟩; rotate_left; (focus assumption)) | (refine hL1i tab_ok 1 rfl ?_ rfl hH rfl rfl rfl rfl ?_; (focus (first | exact wN rfl | exact rfl)); refine ⟨?_, ?_, ?_⟩; rotate_left; (focus assumption)) | (refine hL1i tab_ok 2 rfl ?_ rfl hH rfl rfl rfl rfl ?_; (focus (first | exact wN rfl | exact rfl)); refine ⟨?_, ?_, ?_⟩; rotate_left; (focus assumption))) | (refine gS rfl ?_; first | (refine hS1 tab_ok 0 rfl ?_ rfl rfl hH rfl rfl rfl rfl rfl ?_; (focus (first | exact wN rfl | exact rfl))) | (refine hS1 tab_ok 1 rfl ?_ rfl rfl hH rfl rfl rfl rfl rfl ?_; (focus (first | exact wN rfl | exact rfl))) | (refine hS1 tab_ok 2 rfl ?_ rfl rfl hH rfl rfl rfl rfl rfl ?_; (focus (first | exact wN rfl | exact rfl))) | (refine hSR tab_ok 0 rfl ?_ rfl rfl hH rfl rfl rfl rfl rfl ?_ ?_; (focus (first | exact wN rfl | exact rfl)); (focus (repeat (first | exact trivial | assumption | exact OkA.z (by kernel_rfl) (by kernel_rfl) | refine ⟨rfl, ?_⟩ | refine ⟨?_, ?_⟩)))) | (refine hSR tab_ok 1 rfl ?_ rfl rfl hH rfl rfl rfl rfl rfl ?_ ?_; (focus (first | exact wN rfl | exact rfl)); (focus (repeat (first | exact trivial | assumption | exact OkA.z (by kernel_rfl) (by kernel_rfl) | refine ⟨rfl, ?_⟩ | refine ⟨?_, ?_⟩)))) | (refine hSR tab_ok 2 rfl ?_ rfl rfl hH rfl rfl rfl rfl rfl ?_ ?_; (focus (first | exact wN rfl | exact rfl)); (focus (repeat (first | exact trivial | assumption | exact OkA.z (by kernel_rfl) (by kernel_rfl) | refine ⟨rfl, ?_⟩ | refine ⟨?_, ?_⟩))))) | (refine hAl tab_ok rfl ?_ hH rfl ?_; (focus (first | exact wN rfl | exact rfl))) | (refine hBx1 rfl ?_ rfl hH ?_; (focus (first | exact wN rfl | exact rfl))) | (refine hBx rfl ?_ rfl hH ?_ ?_; (focus (first | exact wN rfl | exact rfl)); (focus (repeat (first | exact trivial | assumption | exact OkA.z (by kernel_rfl) (by kernel_rfl) | refine ⟨rfl, ?_⟩ | refine ⟨?_, ?_⟩)))) | (refine hBd tab_ok rfl ?_ rfl rfl rfl hH ?_; (focus (first | exact wN rfl | exact rfl)); refine ⟨?_, ?_, ?_⟩; rotate_left; (focus (repeat (first | exact BR.nil | refine BR.one rfl rfl rfl ?_ | (refine BR.row rfl rfl rfl rfl ?_ ?_; (focus (repeat (first | exact trivial | assumption | exact OkA.z (by kernel_rfl) (by kernel_rfl) | refine ⟨rfl, ?_⟩ | refine ⟨?_, ?_⟩)))))))) | ((with_reducible refine callH hH ?_); refine ⟨?_, ?_, ?_⟩; rotate_left; (focus (first | (exact FG.out _ hH.below))))); clear hH; (first | intro W g hH | intro W hH); ((try simp only [Act.put, List.setIfInBounds_toArray, List.set_cons_succ, List.set_cons_zero]))))
    (first | refine retC2 Tryz.results11 tab_ok 0 rfl rfl hH rfl rfl rfl rfl ?_ | refine retC2 Tryz.results11 tab_ok 1 rfl rfl hH rfl rfl rfl rfl ?_ | refine retC2 Tryz.results11 tab_ok 2 rfl rfl hH rfl rfl rfl rfl ?_)
    exact ⟨rfl, hH.below⟩
  · rw [if_pos rfl]
    have hk : ((kind == 1) = true ∧ (kind == 3) = false ∧ (kind == 2) = false ∧ z = true) ∨ ((kind == 1) = true ∧ (kind == 3) = false ∧ (kind == 2) = false ∧ z = false) ∨ ((kind == 1) = false ∧ (kind == 3) = true ∧ (kind == 2) = false ∧ z = z) ∨ ((kind == 1) = false ∧ (kind == 3) = false ∧ (kind == 2) = true ∧ z = z) ∨ ((kind == 1) = false ∧ (kind == 3) = false ∧ (kind == 2) = false ∧ z = z) := by
      by_cases h1 : kind = 1
      · subst h1; cases z <;> simp
      · by_cases h3 : kind = 3
        · subst h3; simp
        · by_cases h2 : kind = 2
          · subst h2; simp
          · simp [h1, h2, h3]
    have hv : ((ver == 3) = true ∧ (ver == 2) = (ver == 2)) ∨ ((ver == 3) = false ∧ (ver == 2) = true) ∨ ((ver == 3) = false ∧ (ver == 2) = false) := by
      cases (ver == 3) <;> cases (ver == 2) <;> simp
    obtain ⟨D, hD⟩ : ∃ D, D = (if (kind == 1 && z) = true then onA v6 1 else if (kind == 3) = true then onA v6 2 else if (kind == 2 && (ver == 3 || v6 && ver == 2)) = true then onA v6 22 else G) := ⟨_, rfl⟩
    rw [← hD]
    obtain ⟨A1, hA1⟩ : ∃ A, adL (onA true 1) = A := ⟨_, rfl⟩
    rw [hA1] at f1 a1
    have HA1 := Lib.hid hA1
    clear hA1
    obtain ⟨A2, hA2⟩ : ∃ A, adL (onA true 2) = A := ⟨_, rfl⟩
    rw [hA2] at f2 a2
    have HA2 := Lib.hid hA2
    clear hA2
    obtain ⟨A3, hA3⟩ : ∃ A, adL (onA true 22) = A := ⟨_, rfl⟩
    rw [hA3] at f3 a3
    have HA3 := Lib.hid hA3
    clear hA3
    obtain ⟨B1, hB1⟩ : ∃ A, adL (onA false 1) = A := ⟨_, rfl⟩
    rw [hB1] at n1 b1
    have HB1 := Lib.hid hB1
    clear hB1
    obtain ⟨B2, hB2⟩ : ∃ A, adL (onA false 2) = A := ⟨_, rfl⟩
    rw [hB2] at n2 b2
    have HB2 := Lib.hid hB2
    clear hB2
    obtain ⟨B3, hB3⟩ : ∃ A, adL (onA false 22) = A := ⟨_, rfl⟩
    rw [hB3] at n3 b3
    have HB3 := Lib.hid hB3
    clear hB3
    rcases hk with ⟨e1, e3, e2, hz⟩ | ⟨e1, e3, e2, hz⟩ | ⟨e1, e3, e2, hz⟩ | ⟨e1, e3, e2, hz⟩ | ⟨e1, e3, e2, hz⟩
    all_goals
      rcases hv with ⟨v3, -⟩ | ⟨v3, v2⟩ | ⟨v3, v2⟩
      all_goals
        rw [e1, e2, e3, v3, hz] at hD
        try rw [v2] at hD
        cases v6
        all_goals
          have HD := Lib.hid hD
          clear hD
          try subst hz
          try clear hz
          have oD := adL_ok G
          go_enter Tryz.func11, Tryz.ntmps11
          go_wp2_with (first | ((first | (refine gL rfl ?_; first | (refine hL1 tab_ok 0 rfl ?_ rfl hH rfl rfl rfl rfl ?_; (focus (first | exact wN rfl | exact rfl))) | (refine hL1 tab_ok 1 rfl ?_ rfl hH rfl rfl rfl rfl ?_; (focus (first | exact wN rfl | exact rfl))) | (refine hL1 tab_ok 2 rfl ?_ rfl hH rfl rfl rfl rfl ?_; (focus (first | exact wN rfl | exact rfl))) | (refine hLR tab_ok 0 rfl ?_ rfl hH rfl rfl rfl rfl ?_; (focus (first | exact wN rfl | exact rfl))) | (refine hLR tab_ok 1 rfl ?_ rfl hH rfl rfl rfl rfl ?_; (focus (first | exact wN rfl | exact rfl))) | (refine hLR tab_ok 2 rfl ?_ rfl hH rfl rfl rfl rfl ?_; (focus (first | exact wN rfl | exact rfl))) | (refine hL1i tab_ok 0 rfl ?_ rfl hH rfl rfl rfl rfl ?_; (focus (first | exact wN rfl | exact rfl)); refine ⟨?_, ?_, ?_⟩; rotate_left; (focus assumption)) | (refine hL1i tab_ok 1 rfl ?_ rfl hH rfl rfl rfl rfl ?_; (focus (first | exact wN rfl | exact rfl)); refine ⟨?_, ?_, ?_⟩; rotate_left; (focus assumption)) | (refine hL1i tab_ok 2 rfl ?_ rfl hH rfl rfl rfl rfl ?_; (focus (first | exact wN rfl | exact rfl)); refine ⟨?_, ?_, ?_⟩; rotate_left; (focus assumption))) | (refine gS rfl ?_; first | (refine hS1 tab_ok 0 rfl ?_ rfl rfl hH rfl rfl rfl rfl rfl ?_; (focus (first | exact wN rfl | exact rfl))) | (refine hS1 tab_ok 1 rfl ?_ rfl rfl hH rfl rfl rfl rfl rfl ?_; (focus (first | exact wN rfl | exact rfl))) | (refine hS1 tab_ok 2 rfl ?_ rfl rfl hH rfl rfl rfl rfl rfl ?_; (focus (first | exact wN rfl | exact rfl))) | (refine hSR tab_ok 0 rfl ?_ rfl rfl hH rfl rfl rfl rfl rfl ?_ ?_; (focus (first | exact wN rfl | exact rfl)); (focus (repeat (first | exact trivial | assumption | exact OkA.z (by kernel_rfl) (by kernel_rfl) | refine ⟨rfl, ?_⟩ | refine ⟨?_, ?_⟩)))) | (refine hSR tab_ok 1 rfl ?_ rfl rfl hH rfl rfl rfl rfl rfl ?_ ?_; (focus (first | exact wN rfl | exact rfl)); (focus (repeat (first | exact trivial | assumption | exact OkA.z (by kernel_rfl) (by kernel_rfl) | refine ⟨rfl, ?_⟩ | refine ⟨?_, ?_⟩)))) | (refine hSR tab_ok 2 rfl ?_ rfl rfl hH rfl rfl rfl rfl rfl ?_ ?_; (focus (first | exact wN rfl | exact rfl)); (focus (repeat (first | exact trivial | assumption | exact OkA.z (by kernel_rfl) (by kernel_rfl) | refine ⟨rfl, ?_⟩ | refine ⟨?_, ?_⟩))))) | (refine hAl tab_ok rfl ?_ hH rfl ?_; (focus (first | exact wN rfl | exact rfl))) | (refine hBx1 rfl ?_ rfl hH ?_; (focus (first | exact wN rfl | exact rfl))) | (refine hBx rfl ?_ rfl hH ?_ ?_; (focus (first | exact wN rfl | exact rfl)); (focus (repeat (first | exact trivial | assumption | exact OkA.z (by kernel_rfl) (by kernel_rfl) | refine ⟨rfl, ?_⟩ | refine ⟨?_, ?_⟩)))) | (refine hBd tab_ok rfl ?_ rfl rfl rfl hH ?_; (focus (first | exact wN rfl | exact rfl)); refine ⟨?_, ?_, ?_⟩; rotate_left; (focus (repeat (first | exact BR.nil | refine BR.one rfl rfl rfl ?_ | (refine BR.row rfl rfl rfl rfl ?_ ?_; (focus (repeat (first | exact trivial | assumption | exact OkA.z (by kernel_rfl) (by kernel_rfl) | refine ⟨rfl, ?_⟩ | refine ⟨?_, ?_⟩)))))))) | ((with_reducible refine callH hH ?_); refine ⟨?_, ?_, ?_⟩; rotate_left; (focus (first | (exact FG.out _ hH.below) | (with_reducible exact fz _) | (with_reducible exact f1 _) | (with_reducible exact f2 _) | (with_reducible exact f3 _) | (with_reducible exact n1 _) | (with_reducible exact n2 _) | (with_reducible exact n3 _))))); clear hH; (first | intro W g hH | intro W hH); ((try simp only [Act.put, List.setIfInBounds_toArray, List.set_cons_succ, List.set_cons_zero]))))
          (first | refine retC2 Tryz.results11 tab_ok 0 rfl rfl hH rfl rfl rfl rfl ?_ | refine retC2 Tryz.results11 tab_ok 1 rfl rfl hH rfl rfl rfl rfl ?_ | refine retC2 Tryz.results11 tab_ok 2 rfl rfl hH rfl rfl rfl rfl ?_)
          refine ⟨?_, hH.below⟩
          first
            | (rw [show D = onA true 1 from HD.out, HA1.out]; done)
            | (rw [show D = onA true 1 from HD.out, HA1.out]; rfl)
            | (rw [show D = onA true 2 from HD.out, HA2.out]; done)
            | (rw [show D = onA true 2 from HD.out, HA2.out]; rfl)
            | (rw [show D = onA true 22 from HD.out, HA3.out]; done)
            | (rw [show D = onA true 22 from HD.out, HA3.out]; rfl)
            | (rw [show D = onA false 1 from HD.out, HB1.out]; done)
            | (rw [show D = onA false 1 from HD.out, HB1.out]; rfl)
            | (rw [show D = onA false 2 from HD.out, HB2.out]; done)
            | (rw [show D = onA false 2 from HD.out, HB2.out]; rfl)
            | (rw [show D = onA false 22 from HD.out, HB3.out]; done)
            | (rw [show D = onA false 22 from HD.out, HB3.out]; rfl)
            | (rw [show D = G from HD.out]; done)
            | (rw [show D = G from HD.out]; rfl)
end
end Go.Proofs.YtnobencogihbnaaGreat
