/-
  Contract of acequiaref03.Own; loads of old rows; rows of addresses.
-/
import Derived.Test.YteoonblpaabjpaaLe4
namespace Go.Proofs.Yteoonblpaabjpaa
open Go.ChangeShapes Go.WideShapes Go.ChangeAt Go.RowKit
set_option linter.unusedVariables false
set_option linter.unusedSimpArgs false
attribute [local irreducible] wpList

section
variable {P : Program} {T : Tab} {B : Nat} {w0 W W' : World} {H H' : HB} {g : Nat} {t : TypeId} {b : Bool} {S S' : List Seg} {e : TyE} {ops : Array Oper} {rest : List Oper} {op : Oper} {a : Act} {Q : Exit → Act → World → Prop} {ty : TypeId} {x y : Operand} {o : Nat} {v : Value} {A C : List Value} {p : Nat} {q : Addr}
/-- the store of one cell at any place of a row -/
theorem hSx1 (hT : TabOk P T) (i : Nat) (ho : op.op = .store ty x y) (hw : Region.wanted op (yielded ops a.tmps) = true) (hx : a.eval x = .pointer (some ⟨g, o, none⟩)) (hy : one1 (a.eval y) = some v) (hH : Hp B w0 W H) (hi : nthH H i = some (g, t, true, [.many A p]))
    (hty : findT ty T = some e) (hr : e.size = 1) (h : ∃ k H', o = k ∧ k < p ∧ updH H i [.many (A.set k v) p] = some H' ∧ ∀ W', Hp B w0 W' H' → wpList P ops Q rest (a.put op.dst undef) W') : wpList P ops Q (op :: rest) a W := by
  obtain ⟨k, H', rfl, hk, hu, h⟩ := h
  unfold wpList
  rw [if_pos hw]
  refine Or.inl ?_
  obtain ⟨hy, h1⟩ := one1_ok hy
  obtain ⟨hr1, hS, _⟩ := hH.rows.mem hi
  have hA : OkA A p := hS.1
  have hl0 : (fls [.many A p]) = A := by simp [fls]
  have hlt : o < (fls [.many A p]).length := by rw [hl0, hA.1]; exact hk
  have hl := run_store1 (P := P) (W := W) (by rw [(hT.find hty).size, hr]) (g := g) (o := o) h1 (by rw [hr1.cell, List.getElem?_toArray, List.getElem?_eq_getElem hlt]; rfl) (hr1.frozen o)
  unfold Oper.wp execOp
  simp only [ho, hx, hy, Sem.run_bind, hl, Result.andThen_ok, Sem.run_pure]
  refine h _ (hH.upd hi hu ⟨⟨by rw [List.length_set]; exact hA.1, fun z hz => ?_⟩, trivial⟩ ?_ (gb_set (World.grownBy.refl W _) o v))
  · rcases List.mem_or_eq_of_mem_set hz with h | rfl
    · exact hA.2 z h
    · exact h1
  · have := hr1.set o v
    rw [List.setIfInBounds_toArray, hl0] at this
    simpa [fls] using this
/-- the load of a row out of old memory -/
def OldR (w : World) (q : Addr) (C : List Value) : Prop := (∀ j v, C[j]? = some v → w.cell? (q.add j) = some v) ∧ q.block < w.heap.size
theorem run_oldR (hT : TabOk P T) (hH : Hp w0.heap.size w0 W H) (hc : OldR w0 q (fls S)) (hS : okS S) (hty : findT ty T = some e) (hr : e.row = true) (hl : lenS S = e.size) : (Instr.loadAt ty (.pointer (some q))).run P W = .ok (.agg (fls S).toArray) W := by
  obtain ⟨d, hu, hd⟩ := rowT_true (by rw [(hT.find hty).row, hr])
  have hs := (hT.find hty).size
  unfold sizeT at hs
  have hb : ∀ j, (q.add j).block = q.block := fun j => by unfold Addr.add; split <;> rfl
  have hll : (loadCells q (fls S).length).run P W = .ok (fls S).toArray W :=
    run_loadCells_list (P := P) W q (fls S) (fun j v hv => by rw [hH.below.cell (by rw [hb]; exact hc.2)]; exact hc.1 j v hv)
  have hi : (P.info? ty).map (·.size) = some (fls S).length := by rw [hs, okS_len hS, hl]
  cases hq : P.info? ty with
  | none => simp [hq] at hi
  | some i =>
    have hs : i.size = (fls S).length := by simpa [hq] using hi
    have hagg : (isAgg ty).run P W = .ok true W := by
      unfold isAgg
      rw [Sem.run_bind, run_underlying hu W]
      cases d <;> simp_all
    simp [Instr.loadAt, Instr.sureAddr, loadVar, Sem.run_bind, hagg, sizeOf, typeInfo, hq, hs, hll]
theorem hLoR (hT : TabOk P T) (ho : op.op = .load ty x) (hw : Region.wanted op (yielded ops a.tmps) = true) (hx : a.eval x = .pointer (some q)) (hH : Hp w0.heap.size w0 W H) (hty : findT ty T = some e) (hr : e.row = true)
    (h : ∃ S, OldR w0 q (fls S) ∧ okS S ∧ lenS S = e.size ∧ ∀ W', Hp w0.heap.size w0 W' H → wpList P ops Q rest (a.put op.dst (.agg (fls S).toArray)) W') : wpList P ops Q (op :: rest) a W := by
  obtain ⟨S, h1, h2, h3, h⟩ := h
  exact wpL_load ho hw hx (run_oldR hT hH h1 h2 hty hr h3) (h W hH)
/-- the same cells, in other pieces -/
theorem Hp.re0 (h : Hp B w0 W ((g, t, b, S) :: H)) (hf : fls S = fls S') (hS : okS S') : Hp B w0 W ((g, t, b, S') :: H) :=
  ⟨h.below, h.base, ⟨by rw [← hf]; exact h.rows.1.1, hS, h.rows.1.2.2⟩, h.rows.2⟩
end
/-- addresses in a row -/
def rowsA (v : Bool) (L : List (List UInt8)) : List Value := L.flatMap (addrL v)
theorem rowsA_len {v : Bool} : ∀ {L : List (List UInt8)}, (∀ x ∈ L, x.length = 16) → (rowsA v L).length = L.length * 17
  | [], _ => rfl
  | x :: L, h => by
    have := rowsA_len (v := v) (L := L) (fun y hy => h y (by simp [hy]))
    simp only [rowsA, List.flatMap_cons, List.length_append, List.length_cons] at *
    rw [addrL_length (h x (by simp))]
    omega
theorem rowsA_snoc (v : Bool) (L : List (List UInt8)) (x : List UInt8) : rowsA v (L ++ [x]) = rowsA v L ++ addrL v x := by simp [rowsA]
theorem rowsA_at {v : Bool} {L : List (List UInt8)} (h : ∀ x ∈ L, x.length = 16) {k : Nat} (hk : k < L.length) : AtL (rowsA v L) (k * 17) (addrL v L[k]) := by
  refine ⟨rowsA v (L.take k), rowsA v (L.drop (k + 1)), ?_, ?_⟩
  · have : L = L.take k ++ (L[k] :: L.drop (k + 1)) := by rw [← List.drop_eq_getElem_cons hk, List.take_append_drop]
    have e : rowsA v L = rowsA v (L.take k ++ (L[k] :: L.drop (k + 1))) := congrArg (rowsA v) this
    rw [e]
    simp only [rowsA, List.flatMap_append, List.flatMap_cons]
  · rw [rowsA_len (fun x hx => h x (List.mem_of_mem_take hx)), List.length_take]
    congr 1
    omega
theorem rowsA_one {v : Bool} {L : List (List UInt8)} : ∀ x ∈ rowsA v L, x.oneCell' = true := by
  intro x hx
  obtain ⟨y, _, hy⟩ := List.mem_flatMap.1 hx
  exact addrL_one x hy
def zlA (l : List UInt8) (j : Nat) : List UInt8 := l.take 4 ++ List.replicate (j - 4) 0 ++ l.drop j
theorem zlA_set {v : Bool} {l : List UInt8} {j : Nat} (h : l.length = 16) (h4 : 4 ≤ j) (hj : j < 16) : (addrL v (zlA l j)).set (1 + j) (.int .u8 0) = addrL v (zlA l (j + 1)) := by
  obtain ⟨a0, a1, a2, a3, a4, a5, a6, a7, a8, a9, a10, a11, a12, a13, a14, a15, rfl⟩ := sixteen h
  rcases (show j = 4 ∨ j = 5 ∨ j = 6 ∨ j = 7 ∨ j = 8 ∨ j = 9 ∨ j = 10 ∨ j = 11 ∨ j = 12 ∨ j = 13 ∨ j = 14 ∨ j = 15 by omega) with rfl | rfl | rfl | rfl | rfl | rfl | rfl | rfl | rfl | rfl | rfl | rfl
  all_goals rfl
theorem zlA_len {l : List UInt8} {j : Nat} (h : l.length = 16) (h4 : 4 ≤ j) (hj : j ≤ 16) : (zlA l j).length = 16 := by
  unfold zlA
  simp [h]
  omega
section
variable {w : World} {v : Bool} {l : List UInt8}
theorem rOwn_any (h : l.length = 16) : Gives Try.prog 5 #[.agg (fls [.many (addrL v l) 17]).toArray] w (.agg (fls [.many (addrL v (ownA v l)) 17]).toArray) := by
  have oA := okA_addr (v := v) h
  refine Gives.of ?_
  have hH := Hp.refl w
  cases v
  · have e0 : addrL false l = addrL false (zlA l 4) := by unfold zlA; simp
    have oA : OkA (addrL false (zlA l 4)) 17 := e0 ▸ oA
    rw [e0]
    clear e0
    have e1 : ownA false l = zlA l 16 := by unfold ownA zlA; simp; omega
    rw [e1]
    go_enter Try.func5, Try.ntmps5
    go_wp2_with (first | ((first | (refine gL rfl ?_; first | (refine hL1 tab_ok 0 rfl ?_ rfl hH rfl rfl rfl rfl ?_; (focus (first | exact wN rfl | exact rfl))) | (refine hL1 tab_ok 1 rfl ?_ rfl hH rfl rfl rfl rfl ?_; (focus (first | exact wN rfl | exact rfl))) | (refine hLR tab_ok 0 rfl ?_ rfl hH rfl rfl rfl rfl ?_; (focus (first | exact wN rfl | exact rfl))) | (refine hLR tab_ok 1 rfl ?_ rfl hH rfl rfl rfl rfl ?_; (focus (first | exact wN rfl | exact rfl))) | (refine hL1i tab_ok 0 rfl ?_ rfl hH rfl rfl rfl rfl ?_; (focus (first | exact wN rfl | exact rfl)); refine ⟨?_, ?_, ?_⟩; rotate_left; (focus assumption)) | (refine hL1i tab_ok 1 rfl ?_ rfl hH rfl rfl rfl rfl ?_; (focus (first | exact wN rfl | exact rfl)); refine ⟨?_, ?_, ?_⟩; rotate_left; (focus assumption))) | (refine gS rfl ?_; first | (refine hS1 tab_ok 0 rfl ?_ rfl rfl hH rfl rfl rfl rfl rfl ?_; (focus (first | exact wN rfl | exact rfl))) | (refine hS1 tab_ok 1 rfl ?_ rfl rfl hH rfl rfl rfl rfl rfl ?_; (focus (first | exact wN rfl | exact rfl))) | (refine hSR tab_ok 0 rfl ?_ rfl rfl hH rfl rfl rfl rfl rfl ?_ ?_; (focus (first | exact wN rfl | exact rfl)); (focus (repeat (first | exact trivial | assumption | exact OkA.z (by kernel_rfl) (by kernel_rfl) | refine ⟨rfl, ?_⟩ | refine ⟨?_, ?_⟩)))) | (refine hSR tab_ok 1 rfl ?_ rfl rfl hH rfl rfl rfl rfl rfl ?_ ?_; (focus (first | exact wN rfl | exact rfl)); (focus (repeat (first | exact trivial | assumption | exact OkA.z (by kernel_rfl) (by kernel_rfl) | refine ⟨rfl, ?_⟩ | refine ⟨?_, ?_⟩))))) | (refine hAl tab_ok rfl ?_ hH rfl ?_; (focus (first | exact wN rfl | exact rfl))) | (refine hBx1 rfl ?_ rfl hH ?_; (focus (first | exact wN rfl | exact rfl))) | (refine hBx rfl ?_ rfl hH ?_ ?_; (focus (first | exact wN rfl | exact rfl)); (focus (repeat (first | exact trivial | assumption | exact OkA.z (by kernel_rfl) (by kernel_rfl) | refine ⟨rfl, ?_⟩ | refine ⟨?_, ?_⟩)))) | (refine hBd tab_ok rfl ?_ rfl rfl rfl hH ?_; (focus (first | exact wN rfl | exact rfl)); refine ⟨?_, ?_, ?_⟩; rotate_left; (focus (repeat (first | exact BR.nil | refine BR.one rfl rfl rfl ?_ | (refine BR.row rfl rfl rfl rfl ?_ ?_; (focus (repeat (first | exact trivial | assumption | exact OkA.z (by kernel_rfl) (by kernel_rfl) | refine ⟨rfl, ?_⟩ | refine ⟨?_, ?_⟩))))))))); clear hH; (first | intro W g hH | intro W hH); (try simp only [Act.put, List.setIfInBounds_toArray, List.set_cons_succ, List.set_cons_zero])))
    rename_i ga KK aa
    go_loopw [3] (fun i wr => ∃ j : Nat, i = .int .i64 (j : Int) ∧ 4 ≤ j ∧ j ≤ 16 ∧ Hp w.heap.size w wr [(g, 27, true, [.one (.bool false), .many (zeroL Try.prog 25) 16]), (ga, 27, true, [.many (addrL false (zlA l j)) 17])]) (fun i _ => 16 - (intOf i).toNat)
    case atStart => exact ⟨4, rfl, by omega, by omega, hH⟩
    case round =>
      clear hH e1 oA
      obtain ⟨j, rfl, h4, hj, hH⟩ := hrel
      have oA : OkA (addrL false (zlA l j)) 17 := okA_addr (zlA_len h h4 hj)
      by_cases hje : j = 16
      · subst hje
        obtain ⟨A, hA⟩ : ∃ A, addrL false (zlA l 16) = A := ⟨_, rfl⟩
        rw [hA] at hH oA
        have HA := Lib.hid hA
        clear hA
        go_wp2_with (first | ((first | (refine gL rfl ?_; first | (refine hL1 tab_ok 0 rfl ?_ rfl hH rfl rfl rfl rfl ?_; (focus (first | exact wN rfl | exact rfl))) | (refine hL1 tab_ok 1 rfl ?_ rfl hH rfl rfl rfl rfl ?_; (focus (first | exact wN rfl | exact rfl))) | (refine hLR tab_ok 0 rfl ?_ rfl hH rfl rfl rfl rfl ?_; (focus (first | exact wN rfl | exact rfl))) | (refine hLR tab_ok 1 rfl ?_ rfl hH rfl rfl rfl rfl ?_; (focus (first | exact wN rfl | exact rfl))) | (refine hL1i tab_ok 0 rfl ?_ rfl hH rfl rfl rfl rfl ?_; (focus (first | exact wN rfl | exact rfl)); refine ⟨?_, ?_, ?_⟩; rotate_left; (focus assumption)) | (refine hL1i tab_ok 1 rfl ?_ rfl hH rfl rfl rfl rfl ?_; (focus (first | exact wN rfl | exact rfl)); refine ⟨?_, ?_, ?_⟩; rotate_left; (focus assumption))) | (refine gS rfl ?_; first | (refine hS1 tab_ok 0 rfl ?_ rfl rfl hH rfl rfl rfl rfl rfl ?_; (focus (first | exact wN rfl | exact rfl))) | (refine hS1 tab_ok 1 rfl ?_ rfl rfl hH rfl rfl rfl rfl rfl ?_; (focus (first | exact wN rfl | exact rfl))) | (refine hSR tab_ok 0 rfl ?_ rfl rfl hH rfl rfl rfl rfl rfl ?_ ?_; (focus (first | exact wN rfl | exact rfl)); (focus (repeat (first | exact trivial | assumption | exact OkA.z (by kernel_rfl) (by kernel_rfl) | refine ⟨rfl, ?_⟩ | refine ⟨?_, ?_⟩)))) | (refine hSR tab_ok 1 rfl ?_ rfl rfl hH rfl rfl rfl rfl rfl ?_ ?_; (focus (first | exact wN rfl | exact rfl)); (focus (repeat (first | exact trivial | assumption | exact OkA.z (by kernel_rfl) (by kernel_rfl) | refine ⟨rfl, ?_⟩ | refine ⟨?_, ?_⟩))))) | (refine hAl tab_ok rfl ?_ hH rfl ?_; (focus (first | exact wN rfl | exact rfl))) | (refine hBx1 rfl ?_ rfl hH ?_; (focus (first | exact wN rfl | exact rfl))) | (refine hBx rfl ?_ rfl hH ?_ ?_; (focus (first | exact wN rfl | exact rfl)); (focus (repeat (first | exact trivial | assumption | exact OkA.z (by kernel_rfl) (by kernel_rfl) | refine ⟨rfl, ?_⟩ | refine ⟨?_, ?_⟩)))) | (refine hBd tab_ok rfl ?_ rfl rfl rfl hH ?_; (focus (first | exact wN rfl | exact rfl)); refine ⟨?_, ?_, ?_⟩; rotate_left; (focus (repeat (first | exact BR.nil | refine BR.one rfl rfl rfl ?_ | (refine BR.row rfl rfl rfl rfl ?_ ?_; (focus (repeat (first | exact trivial | assumption | exact OkA.z (by kernel_rfl) (by kernel_rfl) | refine ⟨rfl, ?_⟩ | refine ⟨?_, ?_⟩))))))))); clear hH; (first | intro W g hH | intro W hH); (try simp only [Act.put, List.setIfInBounds_toArray, List.set_cons_succ, List.set_cons_zero])))
        (first | refine retC Try.results5 tab_ok 0 rfl rfl hH rfl rfl rfl rfl ?_ | refine retC Try.results5 tab_ok 1 rfl rfl hH rfl rfl rfl rfl ?_)
        exact ⟨by rw [HA.out], hH.below⟩
      have d16 : decide ((j : Int) < 16) = true := decide_eq_true (by omega)
      have hs := Lib.hid (zlA_set (v := false) h h4 (by omega))
      have cA : CellA (addrL false (zlA l j)) 0 (.bool false) := rfl
      generalize hq : addrL false (zlA l j) = A at *
      clear hq
      go_wp2_with (first | ((refine gS rfl ?_; refine hSx1 tab_ok 1 rfl ?_ rfl rfl hH rfl rfl rfl ?_; (focus (first | exact wN rfl | exact rfl)); refine ⟨?_, ?_, ?_, ?_, ?_, ?_⟩; rotate_left 2; (focus rfl); (focus omega); (focus exact rfl); rw [hs.out]; (clear hH; (first | intro W g hH | intro W hH); (try simp only [Act.put, List.setIfInBounds_toArray, List.set_cons_succ, List.set_cons_zero])))) | ((first | (refine gL rfl ?_; first | (refine hL1 tab_ok 0 rfl ?_ rfl hH rfl rfl rfl rfl ?_; (focus (first | exact wN rfl | exact rfl))) | (refine hL1 tab_ok 1 rfl ?_ rfl hH rfl rfl rfl rfl ?_; (focus (first | exact wN rfl | exact rfl))) | (refine hLR tab_ok 0 rfl ?_ rfl hH rfl rfl rfl rfl ?_; (focus (first | exact wN rfl | exact rfl))) | (refine hLR tab_ok 1 rfl ?_ rfl hH rfl rfl rfl rfl ?_; (focus (first | exact wN rfl | exact rfl))) | (refine hL1i tab_ok 0 rfl ?_ rfl hH rfl rfl rfl rfl ?_; (focus (first | exact wN rfl | exact rfl)); refine ⟨?_, ?_, ?_⟩; rotate_left; (focus assumption)) | (refine hL1i tab_ok 1 rfl ?_ rfl hH rfl rfl rfl rfl ?_; (focus (first | exact wN rfl | exact rfl)); refine ⟨?_, ?_, ?_⟩; rotate_left; (focus assumption))) | (refine gS rfl ?_; first | (refine hS1 tab_ok 0 rfl ?_ rfl rfl hH rfl rfl rfl rfl rfl ?_; (focus (first | exact wN rfl | exact rfl))) | (refine hS1 tab_ok 1 rfl ?_ rfl rfl hH rfl rfl rfl rfl rfl ?_; (focus (first | exact wN rfl | exact rfl))) | (refine hSR tab_ok 0 rfl ?_ rfl rfl hH rfl rfl rfl rfl rfl ?_ ?_; (focus (first | exact wN rfl | exact rfl)); (focus (repeat (first | exact trivial | assumption | exact OkA.z (by kernel_rfl) (by kernel_rfl) | refine ⟨rfl, ?_⟩ | refine ⟨?_, ?_⟩)))) | (refine hSR tab_ok 1 rfl ?_ rfl rfl hH rfl rfl rfl rfl rfl ?_ ?_; (focus (first | exact wN rfl | exact rfl)); (focus (repeat (first | exact trivial | assumption | exact OkA.z (by kernel_rfl) (by kernel_rfl) | refine ⟨rfl, ?_⟩ | refine ⟨?_, ?_⟩))))) | (refine hAl tab_ok rfl ?_ hH rfl ?_; (focus (first | exact wN rfl | exact rfl))) | (refine hBx1 rfl ?_ rfl hH ?_; (focus (first | exact wN rfl | exact rfl))) | (refine hBx rfl ?_ rfl hH ?_ ?_; (focus (first | exact wN rfl | exact rfl)); (focus (repeat (first | exact trivial | assumption | exact OkA.z (by kernel_rfl) (by kernel_rfl) | refine ⟨rfl, ?_⟩ | refine ⟨?_, ?_⟩)))) | (refine hBd tab_ok rfl ?_ rfl rfl rfl hH ?_; (focus (first | exact wN rfl | exact rfl)); refine ⟨?_, ?_, ?_⟩; rotate_left; (focus (repeat (first | exact BR.nil | refine BR.one rfl rfl rfl ?_ | (refine BR.row rfl rfl rfl rfl ?_ ?_; (focus (repeat (first | exact trivial | assumption | exact OkA.z (by kernel_rfl) (by kernel_rfl) | refine ⟨rfl, ?_⟩ | refine ⟨?_, ?_⟩))))))))); clear hH; (first | intro W g hH | intro W hH); (try simp only [Act.put, List.setIfInBounds_toArray, List.set_cons_succ, List.set_cons_zero])))
      exact ⟨⟨j + 1, by simp, by omega, by omega, hH⟩, by simp [intOf]; omega⟩
  · have e1 : ownA true l = l := rfl
    rw [e1]
    have cA : CellA (addrL true l) 0 (.bool true) := rfl
    generalize addrL true l = A at *
    go_enter Try.func5, Try.ntmps5
    go_wp2_with (first | ((first | (refine gL rfl ?_; first | (refine hL1 tab_ok 0 rfl ?_ rfl hH rfl rfl rfl rfl ?_; (focus (first | exact wN rfl | exact rfl))) | (refine hL1 tab_ok 1 rfl ?_ rfl hH rfl rfl rfl rfl ?_; (focus (first | exact wN rfl | exact rfl))) | (refine hLR tab_ok 0 rfl ?_ rfl hH rfl rfl rfl rfl ?_; (focus (first | exact wN rfl | exact rfl))) | (refine hLR tab_ok 1 rfl ?_ rfl hH rfl rfl rfl rfl ?_; (focus (first | exact wN rfl | exact rfl))) | (refine hL1i tab_ok 0 rfl ?_ rfl hH rfl rfl rfl rfl ?_; (focus (first | exact wN rfl | exact rfl)); refine ⟨?_, ?_, ?_⟩; rotate_left; (focus assumption)) | (refine hL1i tab_ok 1 rfl ?_ rfl hH rfl rfl rfl rfl ?_; (focus (first | exact wN rfl | exact rfl)); refine ⟨?_, ?_, ?_⟩; rotate_left; (focus assumption))) | (refine gS rfl ?_; first | (refine hS1 tab_ok 0 rfl ?_ rfl rfl hH rfl rfl rfl rfl rfl ?_; (focus (first | exact wN rfl | exact rfl))) | (refine hS1 tab_ok 1 rfl ?_ rfl rfl hH rfl rfl rfl rfl rfl ?_; (focus (first | exact wN rfl | exact rfl))) | (refine hSR tab_ok 0 rfl ?_ rfl rfl hH rfl rfl rfl rfl rfl ?_ ?_; (focus (first | exact wN rfl | exact rfl)); (focus (repeat (first | exact trivial | assumption | exact OkA.z (by kernel_rfl) (by kernel_rfl) | refine ⟨rfl, ?_⟩ | refine ⟨?_, ?_⟩)))) | (refine hSR tab_ok 1 rfl ?_ rfl rfl hH rfl rfl rfl rfl rfl ?_ ?_; (focus (first | exact wN rfl | exact rfl)); (focus (repeat (first | exact trivial | assumption | exact OkA.z (by kernel_rfl) (by kernel_rfl) | refine ⟨rfl, ?_⟩ | refine ⟨?_, ?_⟩))))) | (refine hAl tab_ok rfl ?_ hH rfl ?_; (focus (first | exact wN rfl | exact rfl))) | (refine hBx1 rfl ?_ rfl hH ?_; (focus (first | exact wN rfl | exact rfl))) | (refine hBx rfl ?_ rfl hH ?_ ?_; (focus (first | exact wN rfl | exact rfl)); (focus (repeat (first | exact trivial | assumption | exact OkA.z (by kernel_rfl) (by kernel_rfl) | refine ⟨rfl, ?_⟩ | refine ⟨?_, ?_⟩)))) | (refine hBd tab_ok rfl ?_ rfl rfl rfl hH ?_; (focus (first | exact wN rfl | exact rfl)); refine ⟨?_, ?_, ?_⟩; rotate_left; (focus (repeat (first | exact BR.nil | refine BR.one rfl rfl rfl ?_ | (refine BR.row rfl rfl rfl rfl ?_ ?_; (focus (repeat (first | exact trivial | assumption | exact OkA.z (by kernel_rfl) (by kernel_rfl) | refine ⟨rfl, ?_⟩ | refine ⟨?_, ?_⟩))))))))); clear hH; (first | intro W g hH | intro W hH); (try simp only [Act.put, List.setIfInBounds_toArray, List.set_cons_succ, List.set_cons_zero])))
    rename_i ga KK aa
    go_loopw [3] (fun i wr => ∃ j : Nat, i = .int .i64 (j : Int) ∧ 4 ≤ j ∧ j ≤ 16 ∧ Hp w.heap.size w wr [(g, 27, true, [.one (.bool false), .many (zeroL Try.prog 25) 16]), (ga, 27, true, [.many A 17])]) (fun i _ => 16 - (intOf i).toNat)
    case atStart => exact ⟨4, rfl, by omega, by omega, hH⟩
    case round =>
      clear hH
      obtain ⟨j, rfl, h4, hj, hH⟩ := hrel
      by_cases hje : j = 16
      · subst hje
        go_wp2_with (first | ((first | (refine gL rfl ?_; first | (refine hL1 tab_ok 0 rfl ?_ rfl hH rfl rfl rfl rfl ?_; (focus (first | exact wN rfl | exact rfl))) | (refine hL1 tab_ok 1 rfl ?_ rfl hH rfl rfl rfl rfl ?_; (focus (first | exact wN rfl | exact rfl))) | (refine hLR tab_ok 0 rfl ?_ rfl hH rfl rfl rfl rfl ?_; (focus (first | exact wN rfl | exact rfl))) | (refine hLR tab_ok 1 rfl ?_ rfl hH rfl rfl rfl rfl ?_; (focus (first | exact wN rfl | exact rfl))) | (refine hL1i tab_ok 0 rfl ?_ rfl hH rfl rfl rfl rfl ?_; (focus (first | exact wN rfl | exact rfl)); refine ⟨?_, ?_, ?_⟩; rotate_left; (focus assumption)) | (refine hL1i tab_ok 1 rfl ?_ rfl hH rfl rfl rfl rfl ?_; (focus (first | exact wN rfl | exact rfl)); refine ⟨?_, ?_, ?_⟩; rotate_left; (focus assumption))) | (refine gS rfl ?_; first | (refine hS1 tab_ok 0 rfl ?_ rfl rfl hH rfl rfl rfl rfl rfl ?_; (focus (first | exact wN rfl | exact rfl))) | (refine hS1 tab_ok 1 rfl ?_ rfl rfl hH rfl rfl rfl rfl rfl ?_; (focus (first | exact wN rfl | exact rfl))) | (refine hSR tab_ok 0 rfl ?_ rfl rfl hH rfl rfl rfl rfl rfl ?_ ?_; (focus (first | exact wN rfl | exact rfl)); (focus (repeat (first | exact trivial | assumption | exact OkA.z (by kernel_rfl) (by kernel_rfl) | refine ⟨rfl, ?_⟩ | refine ⟨?_, ?_⟩)))) | (refine hSR tab_ok 1 rfl ?_ rfl rfl hH rfl rfl rfl rfl rfl ?_ ?_; (focus (first | exact wN rfl | exact rfl)); (focus (repeat (first | exact trivial | assumption | exact OkA.z (by kernel_rfl) (by kernel_rfl) | refine ⟨rfl, ?_⟩ | refine ⟨?_, ?_⟩))))) | (refine hAl tab_ok rfl ?_ hH rfl ?_; (focus (first | exact wN rfl | exact rfl))) | (refine hBx1 rfl ?_ rfl hH ?_; (focus (first | exact wN rfl | exact rfl))) | (refine hBx rfl ?_ rfl hH ?_ ?_; (focus (first | exact wN rfl | exact rfl)); (focus (repeat (first | exact trivial | assumption | exact OkA.z (by kernel_rfl) (by kernel_rfl) | refine ⟨rfl, ?_⟩ | refine ⟨?_, ?_⟩)))) | (refine hBd tab_ok rfl ?_ rfl rfl rfl hH ?_; (focus (first | exact wN rfl | exact rfl)); refine ⟨?_, ?_, ?_⟩; rotate_left; (focus (repeat (first | exact BR.nil | refine BR.one rfl rfl rfl ?_ | (refine BR.row rfl rfl rfl rfl ?_ ?_; (focus (repeat (first | exact trivial | assumption | exact OkA.z (by kernel_rfl) (by kernel_rfl) | refine ⟨rfl, ?_⟩ | refine ⟨?_, ?_⟩))))))))); clear hH; (first | intro W g hH | intro W hH); (try simp only [Act.put, List.setIfInBounds_toArray, List.set_cons_succ, List.set_cons_zero])))
        (first | refine retC Try.results5 tab_ok 0 rfl rfl hH rfl rfl rfl rfl ?_ | refine retC Try.results5 tab_ok 1 rfl rfl hH rfl rfl rfl rfl ?_)
        exact ⟨rfl, hH.below⟩
      have d16 : decide ((j : Int) < 16) = true := decide_eq_true (by omega)
      go_wp2_with (first | ((first | (refine gL rfl ?_; first | (refine hL1 tab_ok 0 rfl ?_ rfl hH rfl rfl rfl rfl ?_; (focus (first | exact wN rfl | exact rfl))) | (refine hL1 tab_ok 1 rfl ?_ rfl hH rfl rfl rfl rfl ?_; (focus (first | exact wN rfl | exact rfl))) | (refine hLR tab_ok 0 rfl ?_ rfl hH rfl rfl rfl rfl ?_; (focus (first | exact wN rfl | exact rfl))) | (refine hLR tab_ok 1 rfl ?_ rfl hH rfl rfl rfl rfl ?_; (focus (first | exact wN rfl | exact rfl))) | (refine hL1i tab_ok 0 rfl ?_ rfl hH rfl rfl rfl rfl ?_; (focus (first | exact wN rfl | exact rfl)); refine ⟨?_, ?_, ?_⟩; rotate_left; (focus assumption)) | (refine hL1i tab_ok 1 rfl ?_ rfl hH rfl rfl rfl rfl ?_; (focus (first | exact wN rfl | exact rfl)); refine ⟨?_, ?_, ?_⟩; rotate_left; (focus assumption))) | (refine gS rfl ?_; first | (refine hS1 tab_ok 0 rfl ?_ rfl rfl hH rfl rfl rfl rfl rfl ?_; (focus (first | exact wN rfl | exact rfl))) | (refine hS1 tab_ok 1 rfl ?_ rfl rfl hH rfl rfl rfl rfl rfl ?_; (focus (first | exact wN rfl | exact rfl))) | (refine hSR tab_ok 0 rfl ?_ rfl rfl hH rfl rfl rfl rfl rfl ?_ ?_; (focus (first | exact wN rfl | exact rfl)); (focus (repeat (first | exact trivial | assumption | exact OkA.z (by kernel_rfl) (by kernel_rfl) | refine ⟨rfl, ?_⟩ | refine ⟨?_, ?_⟩)))) | (refine hSR tab_ok 1 rfl ?_ rfl rfl hH rfl rfl rfl rfl rfl ?_ ?_; (focus (first | exact wN rfl | exact rfl)); (focus (repeat (first | exact trivial | assumption | exact OkA.z (by kernel_rfl) (by kernel_rfl) | refine ⟨rfl, ?_⟩ | refine ⟨?_, ?_⟩))))) | (refine hAl tab_ok rfl ?_ hH rfl ?_; (focus (first | exact wN rfl | exact rfl))) | (refine hBx1 rfl ?_ rfl hH ?_; (focus (first | exact wN rfl | exact rfl))) | (refine hBx rfl ?_ rfl hH ?_ ?_; (focus (first | exact wN rfl | exact rfl)); (focus (repeat (first | exact trivial | assumption | exact OkA.z (by kernel_rfl) (by kernel_rfl) | refine ⟨rfl, ?_⟩ | refine ⟨?_, ?_⟩)))) | (refine hBd tab_ok rfl ?_ rfl rfl rfl hH ?_; (focus (first | exact wN rfl | exact rfl)); refine ⟨?_, ?_, ?_⟩; rotate_left; (focus (repeat (first | exact BR.nil | refine BR.one rfl rfl rfl ?_ | (refine BR.row rfl rfl rfl rfl ?_ ?_; (focus (repeat (first | exact trivial | assumption | exact OkA.z (by kernel_rfl) (by kernel_rfl) | refine ⟨rfl, ?_⟩ | refine ⟨?_, ?_⟩))))))))); clear hH; (first | intro W g hH | intro W hH); (try simp only [Act.put, List.setIfInBounds_toArray, List.set_cons_succ, List.set_cons_zero])))
      exact ⟨⟨j + 1, by simp, by omega, by omega, hH⟩, by simp [intOf]; omega⟩
end
end Go.Proofs.Yteoonblpaabjpaa
