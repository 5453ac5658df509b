/-
  Which entry is good (package digest).
-/
import Derived.Test.YtjegjgdihpihoaaGreatDoorDs
namespace Go.Proofs.YtjegjgdihpihoaaGreatDoor
open Go.ChangeShapes Go.WideShapes Go.ChangeAt Go.RowKit
set_option linter.unusedVariables false
set_option linter.unusedSimpArgs false
set_option maxRecDepth 20000
attribute [local irreducible] wpList

/-- the place of the first address that is of the other kind -/
def oddV (v : Bool) (L : List Ad) : Int := match L.findIdx? (fun a => a.v != v) with
  | some i => (i : Int)
  | none => -1
def allV (v : Bool) (L : List Ad) : Bool := L.all fun a => a.v == v
theorem allV_snoc {v : Bool} {L : List Ad} {j : Nat} (h : allV v (L.take j) = true) (hj : j < L.length) (hx : (L[j].v != v) = false) : allV v (L.take (j + 1)) = true := by
  unfold allV at *
  rw [← List.take_append_getElem hj, List.all_append, h]
  simpa using hx
theorem oddV_some {v : Bool} {L : List Ad} {j : Nat} (h : allV v (L.take j) = true) (hj : j < L.length) (hx : (L[j].v != v) = true) : oddV v L = (j : Int) := by
  have : L.findIdx? (fun a => a.v != v) = some j := by
    rw [List.findIdx?_eq_some_iff_getElem]
    refine ⟨hj, hx, fun k hk => ?_⟩
    have hk2 : k < (L.take j).length := by rw [List.length_take]; omega
    have := List.all_eq_true.1 h _ (List.getElem_mem hk2)
    rw [List.getElem_take] at this
    simp only [beq_iff_eq] at this
    simp [this]
  unfold oddV
  rw [this]
theorem oddV_none {v : Bool} {L : List Ad} (h : allV v L = true) : oddV v L = -1 := by
  have : L.findIdx? (fun a => a.v != v) = none := by
    rw [List.findIdx?_eq_none_iff]
    intro a ha
    have := List.all_eq_true.1 h a ha
    simp only [beq_iff_eq] at this
    simp [this]
  unfold oddV
  rw [this]
theorem oddV_iff {v : Bool} {L : List Ad} : decide (0 ≤ oddV v L) = !allV v L := by
  cases h : allV v L
  · unfold oddV
    cases hf : L.findIdx? (fun a => a.v != v) with
    | some i => simp
    | none =>
      rw [List.findIdx?_eq_none_iff] at hf
      have : allV v L = true := List.all_eq_true.2 fun a ha => by have := hf a ha; simpa using this
      rw [h] at this; cases this
  · rw [oddV_none h]; rfl
section
variable {w : World} {p s : Option Addr} {c cs gb n : Nat} {L : List Ad} {G : List Value} {v b : Bool} {k : Int}
theorem one1_any {a : Ad} (oG : OkA G 17) (cG : CellA G 0 (.bool v)) (hr : Row w gb 29 (fls [.one (.int .i64 k), .many G 17, .one (.bool b), .one (.slice s n cs)]).toArray) :
    Gives Tryz.prog 65 #[.agg (fls [.many (adL a) 17]).toArray, .pointer (some ⟨gb, 0, none⟩)] w (.bool (a.v != v)) := by
  refine Gives.of ?_
  have hH := (Hp.refl w).old hr hr.lt ⟨rfl, oG, rfl, rfl, trivial⟩ (by simp)
  have oA := adL_ok a
  have cA := adL_0 a
  generalize adL a = A at *
  generalize a.v = u at *
  go_enter Tryz.func65, Tryz.ntmps65
  go_wp2_with (first | ((first | (refine gL rfl ?_; first | (refine hL1 tab_ok 0 rfl ?_ rfl hH rfl rfl rfl rfl ?_; (focus (first | exact wN rfl | exact rfl))) | (refine hL1 tab_ok 1 rfl ?_ rfl hH rfl rfl rfl rfl ?_; (focus (first | exact wN rfl | exact rfl))) | (refine hLR tab_ok 0 rfl ?_ rfl hH rfl rfl rfl rfl ?_; (focus (first | exact wN rfl | exact rfl))) | (refine hLR tab_ok 1 rfl ?_ rfl hH rfl rfl rfl rfl ?_; (focus (first | exact wN rfl | exact rfl))) | (refine hL1i tab_ok 0 rfl ?_ rfl hH rfl rfl rfl rfl ?_; (focus (first | exact wN rfl | exact rfl)); refine ⟨?_, ?_, ?_⟩; rotate_left; (focus assumption)) | (refine hL1i tab_ok 1 rfl ?_ rfl hH rfl rfl rfl rfl ?_; (focus (first | exact wN rfl | exact rfl)); refine ⟨?_, ?_, ?_⟩; rotate_left; (focus assumption))) | (refine gS rfl ?_; first | (refine hS1 tab_ok 0 rfl ?_ rfl rfl hH rfl rfl rfl rfl rfl ?_; (focus (first | exact wN rfl | exact rfl))) | (refine hS1 tab_ok 1 rfl ?_ rfl rfl hH rfl rfl rfl rfl rfl ?_; (focus (first | exact wN rfl | exact rfl))) | (refine hSR tab_ok 0 rfl ?_ rfl rfl hH rfl rfl rfl rfl rfl ?_ ?_; (focus (first | exact wN rfl | exact rfl)); (focus (repeat (first | exact trivial | assumption | exact OkA.z (by kernel_rfl) (by kernel_rfl) | refine ⟨rfl, ?_⟩ | refine ⟨?_, ?_⟩)))) | (refine hSR tab_ok 1 rfl ?_ rfl rfl hH rfl rfl rfl rfl rfl ?_ ?_; (focus (first | exact wN rfl | exact rfl)); (focus (repeat (first | exact trivial | assumption | exact OkA.z (by kernel_rfl) (by kernel_rfl) | refine ⟨rfl, ?_⟩ | refine ⟨?_, ?_⟩))))) | (refine hAl tab_ok rfl ?_ hH rfl ?_; (focus (first | exact wN rfl | exact rfl))) | (refine hBx1 rfl ?_ rfl hH ?_; (focus (first | exact wN rfl | exact rfl))) | (refine hBx rfl ?_ rfl hH ?_ ?_; (focus (first | exact wN rfl | exact rfl)); (focus (repeat (first | exact trivial | assumption | exact OkA.z (by kernel_rfl) (by kernel_rfl) | refine ⟨rfl, ?_⟩ | refine ⟨?_, ?_⟩)))) | (refine hBd tab_ok rfl ?_ rfl rfl rfl hH ?_; (focus (first | exact wN rfl | exact rfl)); refine ⟨?_, ?_, ?_⟩; rotate_left; (focus (repeat (first | exact BR.nil | refine BR.one rfl rfl rfl ?_ | (refine BR.row rfl rfl rfl rfl ?_ ?_; (focus (repeat (first | exact trivial | assumption | exact OkA.z (by kernel_rfl) (by kernel_rfl) | refine ⟨rfl, ?_⟩ | refine ⟨?_, ?_⟩))))))))); clear hH; (first | intro W g hH | intro W hH); ((try simp only [Act.put, List.setIfInBounds_toArray, List.set_cons_succ, List.set_cons_zero]))))
  go_ret
  exact ⟨by cases u <;> cases v <;> rfl, hH.below⟩
theorem dindex_any (oG : OkA G 17) (cG : CellA G 0 (.bool v)) (h : AdsAt w p L) (hr : Row w gb 29 (fls [.one (.int .i64 k), .many G 17, .one (.bool b), .one (.slice s n cs)]).toArray) :
    Gives Tryz.prog 88 #[.slice p L.length c, .func (.func 65) #[] #[.pointer (some ⟨gb, 0, none⟩)]] w (.int .i64 (oddV v L)) := by
  have hl := h.1
  have HA := Lib.hid h
  have FO := Lib.hid (show ∀ W (a : Ad), Below w.heap.size w W → Gives Tryz.prog 65 #[.agg (fls [.many (adL a) 17]).toArray, .pointer (some ⟨gb, 0, none⟩)] W (.bool (a.v != v)) from fun W a hb => one1_any oG cG (hr.below hb hr.lt))
  clear h hr oG cG
  obtain ⟨res, hres⟩ : ∃ r, oddV v L = r := ⟨_, rfl⟩
  rw [hres]
  have HR := Lib.hid hres
  clear hres
  refine Gives.of ?_
  have hH := Hp.refl w
  go_enter Tryz.func88, Tryz.ntmps88
  go_wp2_with (first | ((first | (refine gL rfl ?_; first | (refine hL1 tab_ok 0 rfl ?_ rfl hH rfl rfl rfl rfl ?_; (focus (first | exact wN rfl | exact rfl))) | (refine hLR tab_ok 0 rfl ?_ rfl hH rfl rfl rfl rfl ?_; (focus (first | exact wN rfl | exact rfl))) | (refine hL1i tab_ok 0 rfl ?_ rfl hH rfl rfl rfl rfl ?_; (focus (first | exact wN rfl | exact rfl)); refine ⟨?_, ?_, ?_⟩; rotate_left; (focus assumption))) | (refine gS rfl ?_; first | (refine hS1 tab_ok 0 rfl ?_ rfl rfl hH rfl rfl rfl rfl rfl ?_; (focus (first | exact wN rfl | exact rfl))) | (refine hSR tab_ok 0 rfl ?_ rfl rfl hH rfl rfl rfl rfl rfl ?_ ?_; (focus (first | exact wN rfl | exact rfl)); (focus (repeat (first | exact trivial | assumption | exact OkA.z (by kernel_rfl) (by kernel_rfl) | refine ⟨rfl, ?_⟩ | refine ⟨?_, ?_⟩))))) | (refine hAl tab_ok rfl ?_ hH rfl ?_; (focus (first | exact wN rfl | exact rfl))) | (refine hBx1 rfl ?_ rfl hH ?_; (focus (first | exact wN rfl | exact rfl))) | (refine hBx rfl ?_ rfl hH ?_ ?_; (focus (first | exact wN rfl | exact rfl)); (focus (repeat (first | exact trivial | assumption | exact OkA.z (by kernel_rfl) (by kernel_rfl) | refine ⟨rfl, ?_⟩ | refine ⟨?_, ?_⟩)))) | (refine hBd tab_ok rfl ?_ rfl rfl rfl hH ?_; (focus (first | exact wN rfl | exact rfl)); refine ⟨?_, ?_, ?_⟩; rotate_left; (focus (repeat (first | exact BR.nil | refine BR.one rfl rfl rfl ?_ | (refine BR.row rfl rfl rfl rfl ?_ ?_; (focus (repeat (first | exact trivial | assumption | exact OkA.z (by kernel_rfl) (by kernel_rfl) | refine ⟨rfl, ?_⟩ | refine ⟨?_, ?_⟩))))))))); clear hH; (first | intro W g hH | intro W hH); ((try simp only [Act.put, List.setIfInBounds_toArray, List.set_cons_succ, List.set_cons_zero]))))
  go_loopw [5, 8] (fun _ i wr => ∃ j : Nat, i = .int .i64 (j : Int) ∧ j ≤ L.length ∧ allV v (L.take j) = true ∧ Hp w.heap.size w wr []) (fun _ i _ => L.length - (intOf i).toNat)
  case atStart => exact ⟨0, rfl, by omega, rfl, hH⟩
  case round =>
    clear hH
    obtain ⟨j, rfl, hj, hT, hH⟩ := hrel
    by_cases hjl : j < L.length
    · obtain ⟨q, hq, fA, _⟩ := HA.out.get hjl
      subst hq
      have dj : decide ((j : Int) < (L.length : Int)) = true := decide_eq_true (by omega)
      have HS := Lib.hid (fun e => allV_snoc hT hjl e)
      have HN := Lib.hid (fun e => HR.out.symm.trans (oddV_some hT hjl e))
      clear hT HA
      have oA := adL_ok L[j]
      have f1 := Lib.hid (fun W hb => FO.out W L[j] hb)
      generalize adL L[j] = A at *
      generalize (L[j].v != v) = y at *
      clear FO
      cases y
      · have e := Lib.hid (HS.out rfl)
        clear HS HN
        go_wp2_with (first | ((refine gL rfl ?_; refine hLoR tab_ok rfl ?_ rfl hH rfl rfl ?_; (focus (first | exact wN rfl | exact rfl)); refine ⟨_, fA, ⟨oA, trivial⟩, rfl, ?_⟩; (clear hH; (first | intro W g hH | intro W hH); (try simp only [Act.put, List.setIfInBounds_toArray, List.set_cons_succ, List.set_cons_zero])))) | ((first | (refine gL rfl ?_; first | (refine hL1 tab_ok 0 rfl ?_ rfl hH rfl rfl rfl rfl ?_; (focus (first | exact wN rfl | exact rfl))) | (refine hLR tab_ok 0 rfl ?_ rfl hH rfl rfl rfl rfl ?_; (focus (first | exact wN rfl | exact rfl))) | (refine hL1i tab_ok 0 rfl ?_ rfl hH rfl rfl rfl rfl ?_; (focus (first | exact wN rfl | exact rfl)); refine ⟨?_, ?_, ?_⟩; rotate_left; (focus assumption))) | (refine gS rfl ?_; first | (refine hS1 tab_ok 0 rfl ?_ rfl rfl hH rfl rfl rfl rfl rfl ?_; (focus (first | exact wN rfl | exact rfl))) | (refine hSR tab_ok 0 rfl ?_ rfl rfl hH rfl rfl rfl rfl rfl ?_ ?_; (focus (first | exact wN rfl | exact rfl)); (focus (repeat (first | exact trivial | assumption | exact OkA.z (by kernel_rfl) (by kernel_rfl) | refine ⟨rfl, ?_⟩ | refine ⟨?_, ?_⟩))))) | (refine hAl tab_ok rfl ?_ hH rfl ?_; (focus (first | exact wN rfl | exact rfl))) | (refine hBx1 rfl ?_ rfl hH ?_; (focus (first | exact wN rfl | exact rfl))) | (refine hBx rfl ?_ rfl hH ?_ ?_; (focus (first | exact wN rfl | exact rfl)); (focus (repeat (first | exact trivial | assumption | exact OkA.z (by kernel_rfl) (by kernel_rfl) | refine ⟨rfl, ?_⟩ | refine ⟨?_, ?_⟩)))) | (refine hBd tab_ok rfl ?_ rfl rfl rfl hH ?_; (focus (first | exact wN rfl | exact rfl)); refine ⟨?_, ?_, ?_⟩; rotate_left; (focus (repeat (first | exact BR.nil | refine BR.one rfl rfl rfl ?_ | (refine BR.row rfl rfl rfl rfl ?_ ?_; (focus (repeat (first | exact trivial | assumption | exact OkA.z (by kernel_rfl) (by kernel_rfl) | refine ⟨rfl, ?_⟩ | refine ⟨?_, ?_⟩)))))))) | ((with_reducible refine callH hH ?_); refine ⟨?_, ?_, ?_⟩; rotate_left; (focus (first | (exact f1.out _ hH.below))))); clear hH; (first | intro W g hH | intro W hH); ((try simp only [Act.put, List.setIfInBounds_toArray, List.set_cons_succ, List.set_cons_zero]))))
        exact ⟨⟨j + 1, by simp, by omega, e.out, hH⟩, by simp [intOf]; omega⟩
      · have e := HN.out rfl
        subst e
        clear HS HN
        go_wp2_with (first | ((refine gL rfl ?_; refine hLoR tab_ok rfl ?_ rfl hH rfl rfl ?_; (focus (first | exact wN rfl | exact rfl)); refine ⟨_, fA, ⟨oA, trivial⟩, rfl, ?_⟩; (clear hH; (first | intro W g hH | intro W hH); (try simp only [Act.put, List.setIfInBounds_toArray, List.set_cons_succ, List.set_cons_zero])))) | ((first | (refine gL rfl ?_; first | (refine hL1 tab_ok 0 rfl ?_ rfl hH rfl rfl rfl rfl ?_; (focus (first | exact wN rfl | exact rfl))) | (refine hLR tab_ok 0 rfl ?_ rfl hH rfl rfl rfl rfl ?_; (focus (first | exact wN rfl | exact rfl))) | (refine hL1i tab_ok 0 rfl ?_ rfl hH rfl rfl rfl rfl ?_; (focus (first | exact wN rfl | exact rfl)); refine ⟨?_, ?_, ?_⟩; rotate_left; (focus assumption))) | (refine gS rfl ?_; first | (refine hS1 tab_ok 0 rfl ?_ rfl rfl hH rfl rfl rfl rfl rfl ?_; (focus (first | exact wN rfl | exact rfl))) | (refine hSR tab_ok 0 rfl ?_ rfl rfl hH rfl rfl rfl rfl rfl ?_ ?_; (focus (first | exact wN rfl | exact rfl)); (focus (repeat (first | exact trivial | assumption | exact OkA.z (by kernel_rfl) (by kernel_rfl) | refine ⟨rfl, ?_⟩ | refine ⟨?_, ?_⟩))))) | (refine hAl tab_ok rfl ?_ hH rfl ?_; (focus (first | exact wN rfl | exact rfl))) | (refine hBx1 rfl ?_ rfl hH ?_; (focus (first | exact wN rfl | exact rfl))) | (refine hBx rfl ?_ rfl hH ?_ ?_; (focus (first | exact wN rfl | exact rfl)); (focus (repeat (first | exact trivial | assumption | exact OkA.z (by kernel_rfl) (by kernel_rfl) | refine ⟨rfl, ?_⟩ | refine ⟨?_, ?_⟩)))) | (refine hBd tab_ok rfl ?_ rfl rfl rfl hH ?_; (focus (first | exact wN rfl | exact rfl)); refine ⟨?_, ?_, ?_⟩; rotate_left; (focus (repeat (first | exact BR.nil | refine BR.one rfl rfl rfl ?_ | (refine BR.row rfl rfl rfl rfl ?_ ?_; (focus (repeat (first | exact trivial | assumption | exact OkA.z (by kernel_rfl) (by kernel_rfl) | refine ⟨rfl, ?_⟩ | refine ⟨?_, ?_⟩)))))))) | ((with_reducible refine callH hH ?_); refine ⟨?_, ?_, ?_⟩; rotate_left; (focus (first | (exact f1.out _ hH.below))))); clear hH; (first | intro W g hH | intro W hH); ((try simp only [Act.put, List.setIfInBounds_toArray, List.set_cons_succ, List.set_cons_zero]))))
        go_ret
        exact ⟨rfl, hH.below⟩
    · have e : res = -1 := HR.out.symm.trans (oddV_none (by rwa [List.take_of_length_le (by omega)] at hT))
      subst e
      have dj : decide ((j : Int) < (L.length : Int)) = false := decide_eq_false (by omega)
      clear hT HA HR
      go_wp2_with (first | ((first | (refine gL rfl ?_; first | (refine hL1 tab_ok 0 rfl ?_ rfl hH rfl rfl rfl rfl ?_; (focus (first | exact wN rfl | exact rfl))) | (refine hLR tab_ok 0 rfl ?_ rfl hH rfl rfl rfl rfl ?_; (focus (first | exact wN rfl | exact rfl))) | (refine hL1i tab_ok 0 rfl ?_ rfl hH rfl rfl rfl rfl ?_; (focus (first | exact wN rfl | exact rfl)); refine ⟨?_, ?_, ?_⟩; rotate_left; (focus assumption))) | (refine gS rfl ?_; first | (refine hS1 tab_ok 0 rfl ?_ rfl rfl hH rfl rfl rfl rfl rfl ?_; (focus (first | exact wN rfl | exact rfl))) | (refine hSR tab_ok 0 rfl ?_ rfl rfl hH rfl rfl rfl rfl rfl ?_ ?_; (focus (first | exact wN rfl | exact rfl)); (focus (repeat (first | exact trivial | assumption | exact OkA.z (by kernel_rfl) (by kernel_rfl) | refine ⟨rfl, ?_⟩ | refine ⟨?_, ?_⟩))))) | (refine hAl tab_ok rfl ?_ hH rfl ?_; (focus (first | exact wN rfl | exact rfl))) | (refine hBx1 rfl ?_ rfl hH ?_; (focus (first | exact wN rfl | exact rfl))) | (refine hBx rfl ?_ rfl hH ?_ ?_; (focus (first | exact wN rfl | exact rfl)); (focus (repeat (first | exact trivial | assumption | exact OkA.z (by kernel_rfl) (by kernel_rfl) | refine ⟨rfl, ?_⟩ | refine ⟨?_, ?_⟩)))) | (refine hBd tab_ok rfl ?_ rfl rfl rfl hH ?_; (focus (first | exact wN rfl | exact rfl)); refine ⟨?_, ?_, ?_⟩; rotate_left; (focus (repeat (first | exact BR.nil | refine BR.one rfl rfl rfl ?_ | (refine BR.row rfl rfl rfl rfl ?_ ?_; (focus (repeat (first | exact trivial | assumption | exact OkA.z (by kernel_rfl) (by kernel_rfl) | refine ⟨rfl, ?_⟩ | refine ⟨?_, ?_⟩))))))))); clear hH; (first | intro W g hH | intro W hH); ((try simp only [Act.put, List.setIfInBounds_toArray, List.set_cons_succ, List.set_cons_zero]))))
      go_ret
      exact ⟨rfl, hH.below⟩
theorem dcontains_any (oG : OkA G 17) (cG : CellA G 0 (.bool v)) (h : AdsAt w p L) (hr : Row w gb 29 (fls [.one (.int .i64 k), .many G 17, .one (.bool b), .one (.slice s n cs)]).toArray) :
    Gives Tryz.prog 67 #[.slice p L.length c, .func (.func 65) #[] #[.pointer (some ⟨gb, 0, none⟩)]] w (.bool (!allV v L)) := by
  have f1 := Lib.hid (show ∀ W, Below w.heap.size w W → Gives Tryz.prog 88 #[.slice p L.length c, .func (.func 65) #[] #[.pointer (some ⟨gb, 0, none⟩)]] W (.int .i64 (oddV v L)) from fun W hb => dindex_any oG cG (h.below hb) (hr.below hb hr.lt))
  clear h hr oG cG
  rw [← oddV_iff]
  generalize oddV v L = x at *
  generalize L.length = m at *
  refine Gives.of ?_
  have hH := Hp.refl w
  go_enter Tryz.func67, Tryz.ntmps67
  go_wp2_with (first | ((first | (refine gL rfl ?_; first | (refine hL1 tab_ok 0 rfl ?_ rfl hH rfl rfl rfl rfl ?_; (focus (first | exact wN rfl | exact rfl))) | (refine hLR tab_ok 0 rfl ?_ rfl hH rfl rfl rfl rfl ?_; (focus (first | exact wN rfl | exact rfl))) | (refine hL1i tab_ok 0 rfl ?_ rfl hH rfl rfl rfl rfl ?_; (focus (first | exact wN rfl | exact rfl)); refine ⟨?_, ?_, ?_⟩; rotate_left; (focus assumption))) | (refine gS rfl ?_; first | (refine hS1 tab_ok 0 rfl ?_ rfl rfl hH rfl rfl rfl rfl rfl ?_; (focus (first | exact wN rfl | exact rfl))) | (refine hSR tab_ok 0 rfl ?_ rfl rfl hH rfl rfl rfl rfl rfl ?_ ?_; (focus (first | exact wN rfl | exact rfl)); (focus (repeat (first | exact trivial | assumption | exact OkA.z (by kernel_rfl) (by kernel_rfl) | refine ⟨rfl, ?_⟩ | refine ⟨?_, ?_⟩))))) | (refine hAl tab_ok rfl ?_ hH rfl ?_; (focus (first | exact wN rfl | exact rfl))) | (refine hBx1 rfl ?_ rfl hH ?_; (focus (first | exact wN rfl | exact rfl))) | (refine hBx rfl ?_ rfl hH ?_ ?_; (focus (first | exact wN rfl | exact rfl)); (focus (repeat (first | exact trivial | assumption | exact OkA.z (by kernel_rfl) (by kernel_rfl) | refine ⟨rfl, ?_⟩ | refine ⟨?_, ?_⟩)))) | (refine hBd tab_ok rfl ?_ rfl rfl rfl hH ?_; (focus (first | exact wN rfl | exact rfl)); refine ⟨?_, ?_, ?_⟩; rotate_left; (focus (repeat (first | exact BR.nil | refine BR.one rfl rfl rfl ?_ | (refine BR.row rfl rfl rfl rfl ?_ ?_; (focus (repeat (first | exact trivial | assumption | exact OkA.z (by kernel_rfl) (by kernel_rfl) | refine ⟨rfl, ?_⟩ | refine ⟨?_, ?_⟩)))))))) | ((with_reducible refine callH hH ?_); refine ⟨?_, ?_, ?_⟩; rotate_left; (focus (first | (exact f1.out _ hH.below))))); clear hH; (first | intro W g hH | intro W hH); ((try simp only [Act.put, List.setIfInBounds_toArray, List.set_cons_succ, List.set_cons_zero]))))
  go_ret
  exact ⟨by simp, hH.below⟩
theorem callR0 {P : Program} {f : FuncId} {args : Array Value} {B g : Nat} {w0 W : World} {H : HB} {t : TypeId} {o : Bool} {S : List Seg} {u : Value} {R : Ending → World → Prop} (i : Nat) (hH : Hp B w0 W H) (hi : nthH H i = some (g, t, o, S)) (h : Row W g t (fls S).toArray → Gives P f args W u) (hR : ∀ W', Hp B w0 W' H → R (.returned u) W') : Calls P f args W R :=
  callH hH ⟨u, h (hH.rows.mem hi).1, hR⟩
noncomputable def oneE (e : En) : Bool := placedE e && goodL e.src && decide (e.src.length ≤ 64) && allV e.grp.v e.src && !noneF e.ex e.src.length
set_option maxHeartbeats 4000000 in
theorem one_any {e : En} (h : AdsAt w p e.src) : Gives Tryz.prog 36 #[.agg (fls (enS e p c)).toArray] w (.bool (oneE e)) := by
  refine Gives.of ?_
  have hH := Hp.refl w
  have oG := adL_ok e.grp
  have cG := adL_0 e.grp
  have HA := Lib.hid h
  clear h
  have f1 : ∀ w, Gives Tryz.prog 34 #[.agg (fls (enS e p c)).toArray] w (.bool (placedE e)) := fun w => placed_any
  have f2 := Lib.hid (fun W (hb : Below w.heap.size w W) => mGood_any (ex := e.ex) (c := c) (HA.out.below hb))
  have f3 : ∀ w, Gives Tryz.prog 35 #[.agg (fls (flS e.ex p e.src.length c)).toArray] w (.bool (noneF e.ex e.src.length)) := fun w => none_any
  have f4 := Lib.hid (fun W (hb : Below w.heap.size w W) gb (hr : Row W gb 29 (fls [.one (.int .i64 e.vlan), .many (adL e.grp) 17, .one (.bool e.ex), .one (.slice p e.src.length c)]).toArray) => dcontains_any (c := c) oG cG (HA.out.below hb) hr)
  clear HA cG
  unfold oneE
  unfold enS flS at *
  generalize placedE e = pl at *
  generalize goodL e.src = gl at *
  generalize allV e.grp.v e.src = al at *
  generalize noneF e.ex e.src.length = nf at *
  generalize adL e.grp = G at *
  generalize e.src.length = m at *
  generalize e.ex = ex at *
  generalize e.vlan = k at *
  cases pl
  · skip
    go_enter Tryz.func36, Tryz.ntmps36
    go_wp2_with (first | ((go_at_call 67; refine callR0 0 hH rfl (fun hr => f4.out _ hH.below _ hr) ?_; (clear hH; (first | intro W g hH | intro W hH); (try simp only [Act.put, List.setIfInBounds_toArray, List.set_cons_succ, List.set_cons_zero])))) | ((first | (refine gL rfl ?_; first | (refine hL1 tab_ok 0 rfl ?_ rfl hH rfl rfl rfl rfl ?_; (focus (first | exact wN rfl | exact rfl))) | (refine hLR tab_ok 0 rfl ?_ rfl hH rfl rfl rfl rfl ?_; (focus (first | exact wN rfl | exact rfl))) | (refine hL1i tab_ok 0 rfl ?_ rfl hH rfl rfl rfl rfl ?_; (focus (first | exact wN rfl | exact rfl)); refine ⟨?_, ?_, ?_⟩; rotate_left; (focus assumption))) | (refine gS rfl ?_; first | (refine hS1 tab_ok 0 rfl ?_ rfl rfl hH rfl rfl rfl rfl rfl ?_; (focus (first | exact wN rfl | exact rfl))) | (refine hSR tab_ok 0 rfl ?_ rfl rfl hH rfl rfl rfl rfl rfl ?_ ?_; (focus (first | exact wN rfl | exact rfl)); (focus (repeat (first | exact trivial | assumption | exact OkA.z (by kernel_rfl) (by kernel_rfl) | refine ⟨rfl, ?_⟩ | refine ⟨?_, ?_⟩))))) | (refine hAl tab_ok rfl ?_ hH rfl ?_; (focus (first | exact wN rfl | exact rfl))) | (refine hBx1 rfl ?_ rfl hH ?_; (focus (first | exact wN rfl | exact rfl))) | (refine hBx rfl ?_ rfl hH ?_ ?_; (focus (first | exact wN rfl | exact rfl)); (focus (repeat (first | exact trivial | assumption | exact OkA.z (by kernel_rfl) (by kernel_rfl) | refine ⟨rfl, ?_⟩ | refine ⟨?_, ?_⟩)))) | (refine hBd tab_ok rfl ?_ rfl rfl rfl hH ?_; (focus (first | exact wN rfl | exact rfl)); refine ⟨?_, ?_, ?_⟩; rotate_left; (focus (repeat (first | exact BR.nil | refine BR.one rfl rfl rfl ?_ | (refine BR.row rfl rfl rfl rfl ?_ ?_; (focus (repeat (first | exact trivial | assumption | exact OkA.z (by kernel_rfl) (by kernel_rfl) | refine ⟨rfl, ?_⟩ | refine ⟨?_, ?_⟩)))))))) | ((with_reducible refine callH hH ?_); refine ⟨?_, ?_, ?_⟩; rotate_left; (focus (first | (with_reducible exact f1 _) | (exact f2.out _ hH.below) | (with_reducible exact f3 _))))); clear hH; (first | intro W g hH | intro W hH); ((try simp only [Act.put, List.setIfInBounds_toArray, List.set_cons_succ, List.set_cons_zero]))))
    go_ret
    exact ⟨by simp, hH.below⟩
  · skip
    cases gl
    · skip
      go_enter Tryz.func36, Tryz.ntmps36
      go_wp2_with (first | ((go_at_call 67; refine callR0 0 hH rfl (fun hr => f4.out _ hH.below _ hr) ?_; (clear hH; (first | intro W g hH | intro W hH); (try simp only [Act.put, List.setIfInBounds_toArray, List.set_cons_succ, List.set_cons_zero])))) | ((first | (refine gL rfl ?_; first | (refine hL1 tab_ok 0 rfl ?_ rfl hH rfl rfl rfl rfl ?_; (focus (first | exact wN rfl | exact rfl))) | (refine hLR tab_ok 0 rfl ?_ rfl hH rfl rfl rfl rfl ?_; (focus (first | exact wN rfl | exact rfl))) | (refine hL1i tab_ok 0 rfl ?_ rfl hH rfl rfl rfl rfl ?_; (focus (first | exact wN rfl | exact rfl)); refine ⟨?_, ?_, ?_⟩; rotate_left; (focus assumption))) | (refine gS rfl ?_; first | (refine hS1 tab_ok 0 rfl ?_ rfl rfl hH rfl rfl rfl rfl rfl ?_; (focus (first | exact wN rfl | exact rfl))) | (refine hSR tab_ok 0 rfl ?_ rfl rfl hH rfl rfl rfl rfl rfl ?_ ?_; (focus (first | exact wN rfl | exact rfl)); (focus (repeat (first | exact trivial | assumption | exact OkA.z (by kernel_rfl) (by kernel_rfl) | refine ⟨rfl, ?_⟩ | refine ⟨?_, ?_⟩))))) | (refine hAl tab_ok rfl ?_ hH rfl ?_; (focus (first | exact wN rfl | exact rfl))) | (refine hBx1 rfl ?_ rfl hH ?_; (focus (first | exact wN rfl | exact rfl))) | (refine hBx rfl ?_ rfl hH ?_ ?_; (focus (first | exact wN rfl | exact rfl)); (focus (repeat (first | exact trivial | assumption | exact OkA.z (by kernel_rfl) (by kernel_rfl) | refine ⟨rfl, ?_⟩ | refine ⟨?_, ?_⟩)))) | (refine hBd tab_ok rfl ?_ rfl rfl rfl hH ?_; (focus (first | exact wN rfl | exact rfl)); refine ⟨?_, ?_, ?_⟩; rotate_left; (focus (repeat (first | exact BR.nil | refine BR.one rfl rfl rfl ?_ | (refine BR.row rfl rfl rfl rfl ?_ ?_; (focus (repeat (first | exact trivial | assumption | exact OkA.z (by kernel_rfl) (by kernel_rfl) | refine ⟨rfl, ?_⟩ | refine ⟨?_, ?_⟩)))))))) | ((with_reducible refine callH hH ?_); refine ⟨?_, ?_, ?_⟩; rotate_left; (focus (first | (with_reducible exact f1 _) | (exact f2.out _ hH.below) | (with_reducible exact f3 _))))); clear hH; (first | intro W g hH | intro W hH); ((try simp only [Act.put, List.setIfInBounds_toArray, List.set_cons_succ, List.set_cons_zero]))))
      go_ret
      exact ⟨by simp, hH.below⟩
    · skip
      by_cases hm : m ≤ 64
      · have dm : decide ((m : Int) ≤ 64) = true := decide_eq_true (by omega)
        have dm2 : decide (m ≤ 64) = true := decide_eq_true hm
        rw [dm2]
        cases al
        · skip
          go_enter Tryz.func36, Tryz.ntmps36
          go_wp2_with (first | ((go_at_call 67; refine callR0 0 hH rfl (fun hr => f4.out _ hH.below _ hr) ?_; (clear hH; (first | intro W g hH | intro W hH); (try simp only [Act.put, List.setIfInBounds_toArray, List.set_cons_succ, List.set_cons_zero])))) | ((first | (refine gL rfl ?_; first | (refine hL1 tab_ok 0 rfl ?_ rfl hH rfl rfl rfl rfl ?_; (focus (first | exact wN rfl | exact rfl))) | (refine hLR tab_ok 0 rfl ?_ rfl hH rfl rfl rfl rfl ?_; (focus (first | exact wN rfl | exact rfl))) | (refine hL1i tab_ok 0 rfl ?_ rfl hH rfl rfl rfl rfl ?_; (focus (first | exact wN rfl | exact rfl)); refine ⟨?_, ?_, ?_⟩; rotate_left; (focus assumption))) | (refine gS rfl ?_; first | (refine hS1 tab_ok 0 rfl ?_ rfl rfl hH rfl rfl rfl rfl rfl ?_; (focus (first | exact wN rfl | exact rfl))) | (refine hSR tab_ok 0 rfl ?_ rfl rfl hH rfl rfl rfl rfl rfl ?_ ?_; (focus (first | exact wN rfl | exact rfl)); (focus (repeat (first | exact trivial | assumption | exact OkA.z (by kernel_rfl) (by kernel_rfl) | refine ⟨rfl, ?_⟩ | refine ⟨?_, ?_⟩))))) | (refine hAl tab_ok rfl ?_ hH rfl ?_; (focus (first | exact wN rfl | exact rfl))) | (refine hBx1 rfl ?_ rfl hH ?_; (focus (first | exact wN rfl | exact rfl))) | (refine hBx rfl ?_ rfl hH ?_ ?_; (focus (first | exact wN rfl | exact rfl)); (focus (repeat (first | exact trivial | assumption | exact OkA.z (by kernel_rfl) (by kernel_rfl) | refine ⟨rfl, ?_⟩ | refine ⟨?_, ?_⟩)))) | (refine hBd tab_ok rfl ?_ rfl rfl rfl hH ?_; (focus (first | exact wN rfl | exact rfl)); refine ⟨?_, ?_, ?_⟩; rotate_left; (focus (repeat (first | exact BR.nil | refine BR.one rfl rfl rfl ?_ | (refine BR.row rfl rfl rfl rfl ?_ ?_; (focus (repeat (first | exact trivial | assumption | exact OkA.z (by kernel_rfl) (by kernel_rfl) | refine ⟨rfl, ?_⟩ | refine ⟨?_, ?_⟩)))))))) | ((with_reducible refine callH hH ?_); refine ⟨?_, ?_, ?_⟩; rotate_left; (focus (first | (with_reducible exact f1 _) | (exact f2.out _ hH.below) | (with_reducible exact f3 _))))); clear hH; (first | intro W g hH | intro W hH); ((try simp only [Act.put, List.setIfInBounds_toArray, List.set_cons_succ, List.set_cons_zero]))))
          go_ret
          exact ⟨by simp, hH.below⟩
        · skip
          cases nf
          · skip
            go_enter Tryz.func36, Tryz.ntmps36
            go_wp2_with (first | ((go_at_call 67; refine callR0 0 hH rfl (fun hr => f4.out _ hH.below _ hr) ?_; (clear hH; (first | intro W g hH | intro W hH); (try simp only [Act.put, List.setIfInBounds_toArray, List.set_cons_succ, List.set_cons_zero])))) | ((first | (refine gL rfl ?_; first | (refine hL1 tab_ok 0 rfl ?_ rfl hH rfl rfl rfl rfl ?_; (focus (first | exact wN rfl | exact rfl))) | (refine hLR tab_ok 0 rfl ?_ rfl hH rfl rfl rfl rfl ?_; (focus (first | exact wN rfl | exact rfl))) | (refine hL1i tab_ok 0 rfl ?_ rfl hH rfl rfl rfl rfl ?_; (focus (first | exact wN rfl | exact rfl)); refine ⟨?_, ?_, ?_⟩; rotate_left; (focus assumption))) | (refine gS rfl ?_; first | (refine hS1 tab_ok 0 rfl ?_ rfl rfl hH rfl rfl rfl rfl rfl ?_; (focus (first | exact wN rfl | exact rfl))) | (refine hSR tab_ok 0 rfl ?_ rfl rfl hH rfl rfl rfl rfl rfl ?_ ?_; (focus (first | exact wN rfl | exact rfl)); (focus (repeat (first | exact trivial | assumption | exact OkA.z (by kernel_rfl) (by kernel_rfl) | refine ⟨rfl, ?_⟩ | refine ⟨?_, ?_⟩))))) | (refine hAl tab_ok rfl ?_ hH rfl ?_; (focus (first | exact wN rfl | exact rfl))) | (refine hBx1 rfl ?_ rfl hH ?_; (focus (first | exact wN rfl | exact rfl))) | (refine hBx rfl ?_ rfl hH ?_ ?_; (focus (first | exact wN rfl | exact rfl)); (focus (repeat (first | exact trivial | assumption | exact OkA.z (by kernel_rfl) (by kernel_rfl) | refine ⟨rfl, ?_⟩ | refine ⟨?_, ?_⟩)))) | (refine hBd tab_ok rfl ?_ rfl rfl rfl hH ?_; (focus (first | exact wN rfl | exact rfl)); refine ⟨?_, ?_, ?_⟩; rotate_left; (focus (repeat (first | exact BR.nil | refine BR.one rfl rfl rfl ?_ | (refine BR.row rfl rfl rfl rfl ?_ ?_; (focus (repeat (first | exact trivial | assumption | exact OkA.z (by kernel_rfl) (by kernel_rfl) | refine ⟨rfl, ?_⟩ | refine ⟨?_, ?_⟩)))))))) | ((with_reducible refine callH hH ?_); refine ⟨?_, ?_, ?_⟩; rotate_left; (focus (first | (with_reducible exact f1 _) | (exact f2.out _ hH.below) | (with_reducible exact f3 _))))); clear hH; (first | intro W g hH | intro W hH); ((try simp only [Act.put, List.setIfInBounds_toArray, List.set_cons_succ, List.set_cons_zero]))))
            go_ret
            exact ⟨by simp, hH.below⟩
          · skip
            go_enter Tryz.func36, Tryz.ntmps36
            go_wp2_with (first | ((go_at_call 67; refine callR0 0 hH rfl (fun hr => f4.out _ hH.below _ hr) ?_; (clear hH; (first | intro W g hH | intro W hH); (try simp only [Act.put, List.setIfInBounds_toArray, List.set_cons_succ, List.set_cons_zero])))) | ((first | (refine gL rfl ?_; first | (refine hL1 tab_ok 0 rfl ?_ rfl hH rfl rfl rfl rfl ?_; (focus (first | exact wN rfl | exact rfl))) | (refine hLR tab_ok 0 rfl ?_ rfl hH rfl rfl rfl rfl ?_; (focus (first | exact wN rfl | exact rfl))) | (refine hL1i tab_ok 0 rfl ?_ rfl hH rfl rfl rfl rfl ?_; (focus (first | exact wN rfl | exact rfl)); refine ⟨?_, ?_, ?_⟩; rotate_left; (focus assumption))) | (refine gS rfl ?_; first | (refine hS1 tab_ok 0 rfl ?_ rfl rfl hH rfl rfl rfl rfl rfl ?_; (focus (first | exact wN rfl | exact rfl))) | (refine hSR tab_ok 0 rfl ?_ rfl rfl hH rfl rfl rfl rfl rfl ?_ ?_; (focus (first | exact wN rfl | exact rfl)); (focus (repeat (first | exact trivial | assumption | exact OkA.z (by kernel_rfl) (by kernel_rfl) | refine ⟨rfl, ?_⟩ | refine ⟨?_, ?_⟩))))) | (refine hAl tab_ok rfl ?_ hH rfl ?_; (focus (first | exact wN rfl | exact rfl))) | (refine hBx1 rfl ?_ rfl hH ?_; (focus (first | exact wN rfl | exact rfl))) | (refine hBx rfl ?_ rfl hH ?_ ?_; (focus (first | exact wN rfl | exact rfl)); (focus (repeat (first | exact trivial | assumption | exact OkA.z (by kernel_rfl) (by kernel_rfl) | refine ⟨rfl, ?_⟩ | refine ⟨?_, ?_⟩)))) | (refine hBd tab_ok rfl ?_ rfl rfl rfl hH ?_; (focus (first | exact wN rfl | exact rfl)); refine ⟨?_, ?_, ?_⟩; rotate_left; (focus (repeat (first | exact BR.nil | refine BR.one rfl rfl rfl ?_ | (refine BR.row rfl rfl rfl rfl ?_ ?_; (focus (repeat (first | exact trivial | assumption | exact OkA.z (by kernel_rfl) (by kernel_rfl) | refine ⟨rfl, ?_⟩ | refine ⟨?_, ?_⟩)))))))) | ((with_reducible refine callH hH ?_); refine ⟨?_, ?_, ?_⟩; rotate_left; (focus (first | (with_reducible exact f1 _) | (exact f2.out _ hH.below) | (with_reducible exact f3 _))))); clear hH; (first | intro W g hH | intro W hH); ((try simp only [Act.put, List.setIfInBounds_toArray, List.set_cons_succ, List.set_cons_zero]))))
            go_ret
            exact ⟨by simp, hH.below⟩
      · have dm : decide ((m : Int) ≤ 64) = false := decide_eq_false (by omega)
        have dm2 : decide (m ≤ 64) = false := decide_eq_false hm
        rw [dm2]
        go_enter Tryz.func36, Tryz.ntmps36
        go_wp2_with (first | ((go_at_call 67; refine callR0 0 hH rfl (fun hr => f4.out _ hH.below _ hr) ?_; (clear hH; (first | intro W g hH | intro W hH); (try simp only [Act.put, List.setIfInBounds_toArray, List.set_cons_succ, List.set_cons_zero])))) | ((first | (refine gL rfl ?_; first | (refine hL1 tab_ok 0 rfl ?_ rfl hH rfl rfl rfl rfl ?_; (focus (first | exact wN rfl | exact rfl))) | (refine hLR tab_ok 0 rfl ?_ rfl hH rfl rfl rfl rfl ?_; (focus (first | exact wN rfl | exact rfl))) | (refine hL1i tab_ok 0 rfl ?_ rfl hH rfl rfl rfl rfl ?_; (focus (first | exact wN rfl | exact rfl)); refine ⟨?_, ?_, ?_⟩; rotate_left; (focus assumption))) | (refine gS rfl ?_; first | (refine hS1 tab_ok 0 rfl ?_ rfl rfl hH rfl rfl rfl rfl rfl ?_; (focus (first | exact wN rfl | exact rfl))) | (refine hSR tab_ok 0 rfl ?_ rfl rfl hH rfl rfl rfl rfl rfl ?_ ?_; (focus (first | exact wN rfl | exact rfl)); (focus (repeat (first | exact trivial | assumption | exact OkA.z (by kernel_rfl) (by kernel_rfl) | refine ⟨rfl, ?_⟩ | refine ⟨?_, ?_⟩))))) | (refine hAl tab_ok rfl ?_ hH rfl ?_; (focus (first | exact wN rfl | exact rfl))) | (refine hBx1 rfl ?_ rfl hH ?_; (focus (first | exact wN rfl | exact rfl))) | (refine hBx rfl ?_ rfl hH ?_ ?_; (focus (first | exact wN rfl | exact rfl)); (focus (repeat (first | exact trivial | assumption | exact OkA.z (by kernel_rfl) (by kernel_rfl) | refine ⟨rfl, ?_⟩ | refine ⟨?_, ?_⟩)))) | (refine hBd tab_ok rfl ?_ rfl rfl rfl hH ?_; (focus (first | exact wN rfl | exact rfl)); refine ⟨?_, ?_, ?_⟩; rotate_left; (focus (repeat (first | exact BR.nil | refine BR.one rfl rfl rfl ?_ | (refine BR.row rfl rfl rfl rfl ?_ ?_; (focus (repeat (first | exact trivial | assumption | exact OkA.z (by kernel_rfl) (by kernel_rfl) | refine ⟨rfl, ?_⟩ | refine ⟨?_, ?_⟩)))))))) | ((with_reducible refine callH hH ?_); refine ⟨?_, ?_, ?_⟩; rotate_left; (focus (first | (with_reducible exact f1 _) | (exact f2.out _ hH.below) | (with_reducible exact f3 _))))); clear hH; (first | intro W g hH | intro W hH); ((try simp only [Act.put, List.setIfInBounds_toArray, List.set_cons_succ, List.set_cons_zero]))))
        go_ret
        exact ⟨by simp, hH.below⟩
end
end Go.Proofs.YtjegjgdihpihoaaGreatDoor
