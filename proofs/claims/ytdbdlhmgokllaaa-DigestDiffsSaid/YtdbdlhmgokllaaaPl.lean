/-
  Parts of blocks: append of what lies in a block, clear, stores at any place; blocks in whatever order. No program in sight.
-/
import Derived.Test.YtdbdlhmgokllaaaAo
import Derived.Test.YtdbdlhmgokllaaaHk
namespace Go.Proofs.Ytdbdlhmgokllaaa
open Go.ChangeShapes Go.WideShapes Go.ChangeAt Go.RowKit
set_option linter.unusedVariables false
set_option linter.unusedSimpArgs false
set_option maxRecDepth 20000
attribute [local irreducible] wpList

open Classical in
open Classical in
section
variable {P : Program} {T : Tab} {TS : List (Nat × Nat)} {B : Nat} {w0 W : World} {H : HB} {g : Nat} {t el ty : TypeId} {b : Bool} {S S2 : List Seg} {e : TyE}
variable {ops : Array Oper} {rest : List Oper} {op : Oper} {a : Act} {Q : Exit → Act → World → Prop} {x s y : Operand} {n c m cx p q o : Nat} {L J C A : List Value} {qa : Addr} {v : Value}
theorem Hp.oldS {i : Nat} (hH : Hp B w0 W H) (hi : nthH H i = some (g, t, b, S)) (h : AtL (fls S) o C) : OldS W ⟨g, o, none⟩ C := fun j u hu => by
  obtain ⟨pre, post, h1, h2⟩ := h
  rw [show (⟨g, o, none⟩ : Addr).add j = ⟨g, o + j, none⟩ by unfold Addr.add; split <;> simp_all, (hH.rows.mem hi).1.cell, List.getElem?_toArray, h1, ← h2, List.getElem?_append_right (by omega), Nat.add_sub_cancel_left, List.getElem?_append_left (List.getElem?_eq_some_iff.1 hu).1]
  exact hu
theorem hAppR (i : Nat) (hT : TabOk P T) (hTS : TabSOk P TS) (hfs : findS ty TS = some el) (hty : findT el T = some e) (hlz : lenS e.zero = e.size) (hgd : op.guard = none)
    (ho : op.op = .call { callee := .builtin .append, args := #[s, x], argTypes := #[ty, ty] }) (hs : a.eval s = .slice (some ⟨g, 0, none⟩) n c) (hx : a.eval x = .slice (some qa) m cx) (hH : Hp B w0 W H)
    (hi : nthH H i = some (g, el, true, [.many L p, .many J q]))
    (h : ∃ C, OldS W qa C ∧ OkA C (m * e.size) ∧ Grow e.size n c p q ∧ n + m ≤ c ∧ ∀ W' H', updH H i [.many (L ++ C) ((n + m) * e.size), .many (J.drop (m * e.size)) (c * e.size - (n + m) * e.size)] = some H' → Hp B w0 W' H' → wpList P ops Q rest (a.put op.dst (.slice (some ⟨g, 0, none⟩) (n + m) c)) W') : wpList P ops Q (op :: rest) a W := by
  obtain ⟨C, hnews, hC, hG, hroom, h⟩ := h
  have hu := (hTS.find hfs).slice
  obtain ⟨hr1, hS, hB⟩ := hH.rows.mem hi
  obtain ⟨ie, z, hq, hz, e1, e2, e3⟩ := elem_parts hT hty hlz
  have hLl : L.length = p := hS.1.1
  have hJl : J.length = q := hS.2.1.1
  have hxl := hC.1
  rw [fls_two] at hr1
  have hmul : (n + m) * e.size ≤ c * e.size := Nat.mul_le_mul_right _ hroom
  have hmm : n * e.size + m * e.size = (n + m) * e.size := (Nat.add_mul _ _ _).symm
  have hp := hG.hp
  have hqq := hG.hq
  have okL : OkA (L ++ C) ((n + m) * e.size) := ⟨by rw [List.length_append, hLl, hxl, hG.hp, Nat.add_mul], fun v hv => by
    rcases List.mem_append.1 hv with hv | hv
    · exact hS.1.2 v hv
    · exact hC.2 v hv⟩
  have hr := run_append_room (P := P) W ty op.type el ie hu hq g n c (L ++ J).toArray hr1 qa m cx C (by rw [hxl, e1]) hnews hC.2 hroom (by simp [hLl, hJl, hxl, e1]; omega)
  refine at_app hgd ho hs hx hr ?_
  have hcell : (((L ++ J).toArray.toList.take (n * ie.size) ++ C ++ (L ++ J).toArray.toList.drop (n * ie.size + C.length)).toArray : Array Value) = (fls [.many (L ++ C) ((n + m) * e.size), .many (J.drop (m * e.size)) (c * e.size - (n + m) * e.size)]).toArray := by
    rw [fls_two, e1, hxl, ← hp]
    congr 1
    simp only [List.append_assoc]
    rw [List.take_append_of_le_length (by omega), List.take_of_length_le (by omega)]
    congr 2
    rw [List.drop_append, List.drop_of_length_le (by omega), List.nil_append, hLl, Nat.add_sub_cancel_left]
  have okJ : OkA (J.drop (m * e.size)) (c * e.size - (n + m) * e.size) := ⟨by rw [List.length_drop, hJl]; omega, fun v hv => hS.2.1.2 v (List.mem_of_mem_drop hv)⟩
  have hgr : W.grownBy (W.setRow g ((L ++ J).toArray.toList.take (n * ie.size) ++ C ++ (L ++ J).toArray.toList.drop (n * ie.size + C.length)).toArray) (some g) :=
    ⟨rfl, rfl, rfl, by simp, fun k _ hk => setRow_other W g k _ (fun e => hk (by simp [e]))⟩
  obtain ⟨H', hu'⟩ : ∃ H', updH H i [.many (L ++ C) ((n + m) * e.size), .many (J.drop (m * e.size)) (c * e.size - (n + m) * e.size)] = some H' := by
    clear h hr hgr hcell okJ okL hnews hH
    induction H generalizing i with
    | nil => simp [nthH] at hi
    | cons r H ih =>
      cases i with
      | zero => exact ⟨_, rfl⟩
      | succ i =>
        obtain ⟨H', h⟩ := ih i (by simpa [nthH] using hi)
        exact ⟨r :: H', by simp only [updH]; rw [h]⟩
  refine h _ H' hu' (hH.upd hi hu' (show okS [.many (L ++ C) ((n + m) * e.size), .many (J.drop (m * e.size)) (c * e.size - (n + m) * e.size)] from ⟨okL, okJ, trivial⟩) ?_ hgr)
  rw [← hcell]
  exact setRow_heap W g _ _ el _ hr1
theorem upd_ex : ∀ {H : HB} {i : Nat} {r}, nthH H i = some r → ∀ S', ∃ H', updH H i S' = some H'
  | [], _, _, h, _ => by simp [nthH] at h
  | r :: H, 0, _, _, S' => ⟨_, rfl⟩
  | r :: H, i + 1, _, h, S' => by
    obtain ⟨H', h⟩ := upd_ex (H := H) (i := i) (by simpa [nthH] using h) S'
    exact ⟨r :: H', by simp only [updH]; rw [h]⟩
theorem splice_mid {pre old post new : List Value} (h : old.length = new.length) : splice (pre ++ (old ++ post)).toArray pre.length new = (pre ++ (new ++ post)).toArray := by
  unfold splice
  congr 1
  show (pre ++ (old ++ post)).take pre.length ++ (new ++ (pre ++ (old ++ post)).drop (pre.length + new.length)) = _
  rw [← h]
  simp
theorem Hp.mid {i : Nat} (hH : Hp B w0 W H) (hi : nthH H i = some (g, t, true, S)) {pre old post new : List Value} (hf : fls S = pre ++ (old ++ post)) (hl : old.length = new.length) {S' : List Seg} (hS' : okS S') (hf' : fls S' = pre ++ (new ++ post)) {H' : HB} (hu : updH H i S' = some H') : Hp B w0 (W.setCells g pre.length new) H' := by
  obtain ⟨hr1, hS, hB⟩ := hH.rows.mem hi
  refine hH.upd hi hu hS' ?_ (gb_setCells (World.grownBy.refl W _) _ _)
  rw [hf] at hr1
  have h2 := hr1.setAt (o := pre.length) (vs := new) (by rw [List.size_toArray]; simp only [List.length_append]; omega)
  rw [splice_mid hl] at h2
  rw [hf']
  exact h2
theorem hSxR (hT : TabOk P T) (i : Nat) (ho : op.op = .store ty x y) (hw : Region.wanted op (yielded ops a.tmps) = true) (hx : a.eval x = .pointer (some ⟨g, o, none⟩)) (hy : a.eval y = .agg (fls S2).toArray) (hH : Hp B w0 W H) (hi : nthH H i = some (g, t, true, .many A p :: S))
    (hty : findT ty T = some e) (hr : lenS S2 = e.size) (hS2 : okS S2)
    (h : ∃ pre old post, A = pre ++ (old ++ post) ∧ pre.length = o ∧ old.length = e.size ∧ ∀ W' H', updH H i (.many (pre ++ (fls S2 ++ post)) p :: S) = some H' → Hp B w0 W' H' → wpList P ops Q rest (a.put op.dst undef) W') : wpList P ops Q (op :: rest) a W := by
  obtain ⟨pre, old, post, rfl, rfl, h3, h⟩ := h
  obtain ⟨hr1, hS, hB⟩ := hH.rows.mem hi
  have hl : old.length = (fls S2).length := by rw [h3, okS_len hS2, hr]
  have hz := (hT.find hty).size
  unfold sizeT at hz
  obtain ⟨H', hu⟩ := upd_ex hi (.many (pre ++ (fls S2 ++ post)) p :: S)
  unfold wpList
  rw [if_pos hw]
  refine Or.inl (wp_store_mid ty x y ho g pre.length (fls S2).toArray hx hy (fun j hj => ?_) (by rw [hz, List.size_toArray, okS_len hS2, hr]) (oneL _ (List.all_eq_true.2 (okS_one hS2))) (h _ H' hu (hH.mid hi (pre := pre) (old := old) (post := post ++ fls S) (new := fls S2) (by simp [fls]) hl (S' := .many (pre ++ (fls S2 ++ post)) p :: S) ⟨⟨?_, fun v hv => ?_⟩, hS.2⟩ (by simp [fls]) hu)))
  · have hj' : j < (fls S2).length := by simpa using hj
    rw [hr1.cell, hr1.frozen]
    exact ⟨by rw [List.getElem?_toArray, List.getElem?_eq_getElem (by simp [fls]; omega)]; rfl, rfl⟩
  · have := hS.1.1
    simp only [List.length_append] at this ⊢
    omega
  · have hA := hS.1.2
    simp only [List.mem_append] at hv hA
    rcases hv with hv | hv | hv
    · exact hA v (.inl hv)
    · exact okS_one hS2 v hv
    · exact hA v (.inr (.inr hv))
theorem hClr (i : Nat) (hT : TabOk P T) (hTS : TabSOk P TS) (hfs : findS ty TS = some el) (hty : findT el T = some e) (hlz : lenS e.zero = e.size) (hgd : op.guard = none)
    (ho : op.op = .call { callee := .builtin .clear, args := #[x], argTypes := #[ty] }) (hx : a.eval x = .slice (some ⟨g, o, none⟩) m cx) (hH : Hp B w0 W H) (hi : nthH H i = some (g, t, true, [.many L p, .many J q]))
    (h : o = p ∧ m * e.size ≤ q ∧ ∀ W' H' J', OkA J' q → updH H i [.many L p, .many J' q] = some H' → Hp B w0 W' H' → wpList P ops Q rest (a.put op.dst (.tuple #[])) W') : wpList P ops Q (op :: rest) a W := by
  obtain ⟨rfl, hmq, h⟩ := h
  have hu := (hTS.find hfs).slice
  obtain ⟨ie, z, hq, hz, e1, e2, e3⟩ := elem_parts hT hty hlz
  obtain ⟨hr1, hS, hB⟩ := hH.rows.mem hi
  have hJl : J.length = q := hS.2.1.1
  have hLl : L.length = o := hS.1.1
  have hzc : (Builtin.zeroCells z.cells m).toList = fls (repS m e.zero) := by
    by_cases hm : e.size = 0
    · have : z.cells.size = 0 := by rw [e3, hm]
      have h1 : fls (repS m e.zero) = [] := List.eq_nil_of_length_eq_zero (by rw [okS_len (okS_rep (hT.find hty).okz m), lenS_rep, hlz, hm, Nat.mul_zero])
      rw [h1]
      exact List.eq_nil_of_length_eq_zero (by rw [Array.length_toList, size_zeroCells, this, Nat.mul_zero])
    · have h2 : Builtin.zeroCells z.cells m = (fls (repS m e.zero)).toArray := rep_cells e2 (by omega) m
      rw [h2]
  have hoz := okS_rep (hT.find hty).okz m
  have hlr : (fls (repS m e.zero)).length = m * e.size := by rw [okS_len hoz, lenS_rep, hlz]
  have hst := run_storeCells_cells (P := P) g o (fls (repS m e.zero)) 0 W (fun j hj => by
      rw [Nat.add_zero, hr1.cell, List.getElem?_toArray, List.getElem?_eq_getElem (by simp [fls]; omega)]; rfl) (fun j hj => by rw [hr1.frozen]) (okS_one hoz)
  simp only [Nat.add_zero] at hst
  have hcr : (Builtin.clear_ #[ty] op.type #[.slice (some ⟨g, o, none⟩) m cx]).run P W = .ok (.tuple #[]) (W.setCells g o (fls (repS m e.zero))) := by
    cases m with
    | zero => simp [Builtin.clear_, run_underlying hu, repS, fls, World.setCells]
    | succ m => simp [Builtin.clear_, run_underlying hu, zeroValue, typeInfo, hq, hz, hzc, hst]
  have hsp : J = J.take (m * e.size) ++ J.drop (m * e.size) := (List.take_append_drop _ _).symm
  have okJ : OkA (fls (repS m e.zero) ++ J.drop (m * e.size)) q := ⟨by rw [List.length_append, hlr, List.length_drop, hJl]; omega, fun v hv => by
    rcases List.mem_append.1 hv with hv | hv
    · exact okS_one hoz v hv
    · exact hS.2.1.2 v (List.mem_of_mem_drop hv)⟩
  obtain ⟨H', hu'⟩ := upd_ex hi [.many L o, .many (fls (repS m e.zero) ++ J.drop (m * e.size)) q]
  have hfin := h (W.setCells g o (fls (repS m e.zero))) H' _ okJ hu' (by
    have := hH.mid hi (pre := L) (old := J.take (m * e.size)) (post := J.drop (m * e.size)) (new := fls (repS m e.zero)) (by rw [fls_two, ← hsp]) (by rw [List.length_take, hlr, hJl]; omega) (S' := [.many L o, .many (fls (repS m e.zero) ++ J.drop (m * e.size)) q]) ⟨hS.1, okJ, trivial⟩ (by rw [fls_two]) hu'
    rwa [hLl] at this)
  refine wpList_plain hgd fun K hK => ?_
  unfold Oper.wp execOp
  simp only [ho, resolve, invoke, builtin, Sem.run_bind, Sem.run_pure, Result.andThen_ok, List.map_toArray, List.map_cons, List.map_nil, hx, hcr]
  exact hK _ _ hfin
end
end Go.Proofs.Ytdbdlhmgokllaaa
