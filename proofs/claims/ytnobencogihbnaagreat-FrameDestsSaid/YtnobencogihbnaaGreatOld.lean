/-
  Loads and stores of one cell at any place, loads out of old memory, blocks in another order. No program in sight.
-/
import Derived.Test.YtnobencogihbnaaGreatSl
namespace Go.Proofs.YtnobencogihbnaaGreat
open Go.ChangeShapes Go.WideShapes Go.ChangeAt Go.RowKit
set_option linter.unusedVariables false
set_option linter.unusedSimpArgs false
set_option maxRecDepth 20000
attribute [local irreducible] wpList

/-- the load of a row out of old memory -/
def OldR (w : World) (q : Addr) (C : List Value) : Prop := (∀ j v, C[j]? = some v → w.cell? (q.add j) = some v) ∧ q.block < w.heap.size
/-- a cell of old memory -/
def OldC (w : World) (p : Addr) (v : Value) : Prop := w.cell? p = some v ∧ p.block < w.heap.size
theorem add_block (q : Addr) (j : Nat) : (q.add j).block = q.block := by unfold Addr.add; split <;> rfl
theorem add_succ (a : Addr) (n : Nat) : a.add (n + 1) = ⟨a.block, a.off + (n + 1), none⟩ := by
  unfold Addr.add
  rw [if_neg (by omega)]
theorem OldR.cell {w : World} {q : Addr} {C : List Value} {j : Nat} {v : Value} (h : OldR w q C) (hj : C[j]? = some v) : OldC w (q.add j) v := ⟨h.1 j v hj, by rw [add_block]; exact h.2⟩
theorem OldR.cell0 {w : World} {q : Addr} {C : List Value} {v : Value} (h : OldR w q C) (hj : C[0]? = some v) : OldC w q v := by
  have := h.cell hj
  rwa [show q.add 0 = q by unfold Addr.add; rw [if_pos rfl]] at this
theorem OldR.cellS {w : World} {q : Addr} {C : List Value} {j : Nat} {v : Value} (h : OldR w q C) (hj : C[j + 1]? = some v) : OldC w ⟨q.block, q.off + (j + 1), none⟩ v := by
  have := h.cell hj
  rwa [add_succ] at this
theorem OldC.below {w W : World} {q : Addr} {v : Value} (h : OldC w q v) (hb : Below w.heap.size w W) : OldC W q v :=
  ⟨by rw [hb.cell h.2]; exact h.1, Nat.lt_of_lt_of_le h.2 hb.size⟩
theorem OldR.below {w W : World} {q : Addr} {C : List Value} (h : OldR w q C) (hb : Below w.heap.size w W) : OldR W q C :=
  ⟨fun j v hv => by rw [hb.cell (by rw [add_block]; exact h.2)]; exact h.1 j v hv, Nat.lt_of_lt_of_le h.2 hb.size⟩
theorem cell_lt1 {w : World} {p : Addr} {v : Value} (h : w.cell? p = some v) : p.block < w.heap.size := by
  by_cases hlt : p.block < w.heap.size
  · exact hlt
  · unfold World.cell? at h
    rw [Array.getElem?_eq_none (by omega)] at h
    simp at h
/-- a part of an old row -/
theorem OldR.part {w : World} {q : Addr} {C A pre post : List Value} {k : Nat} (h : OldR w q C) (he : C = pre ++ (A ++ post)) (hk : pre.length = k) : OldR w (q.add k) A :=
  ⟨fun j v hv => by
    have h1 : C[k + j]? = some v := by
      rw [he, List.getElem?_append_right (by omega), hk, Nat.add_sub_cancel_left, List.getElem?_append_left (List.getElem?_eq_some_iff.1 hv).1]
      exact hv
    have := h.1 _ _ h1
    have e : (q.add k).add j = q.add (k + j) := by
      unfold Addr.add
      by_cases hk : k = 0 <;> by_cases hj : j = 0 <;> simp [hk, hj, Nat.add_assoc]
    rw [e]; exact this, by rw [add_block]; exact h.2⟩
section
variable {P : Program} {T : Tab} {B : Nat} {w0 W W' : World} {H H' D D' : HB} {g g' : Nat} {t t' : TypeId} {b b' : Bool} {S S' : List Seg} {e : TyE} {ops : Array Oper} {rest : List Oper} {op : Oper} {a : Act} {Q : Exit → Act → World → Prop} {ty : TypeId} {x y : Operand} {o : Nat} {v : Value} {A C : List Value} {p : Nat} {q : Addr}
/-- the store of one cell at any place of a row -/
theorem hSx1 (hT : TabOk P T) (i : Nat) (ho : op.op = .store ty x y) (hw : Region.wanted op (yielded ops a.tmps) = true) (hx : a.eval x = .pointer (some ⟨g, o, none⟩)) (hy : one1 (a.eval y) = some v) (hH : Hp B w0 W H) (hi : nthH H i = some (g, t, true, [.many A p]))
    (hty : findT ty T = some e) (hr : e.size = 1) (h : ∃ k H', o = k ∧ k < p ∧ updH H i [.many (A.set k v) p] = some H' ∧ ∀ W', Hp B w0 W' H' → wpList P ops Q rest (a.put op.dst undef) W') : wpList P ops Q (op :: rest) a W := by
  obtain ⟨k, H', rfl, hk, hu, h⟩ := h
  unfold wpList
  rw [if_pos hw]
  refine Or.inl ?_
  obtain ⟨hy, h1⟩ := one1_ok hy
  obtain ⟨hr1, hS, _⟩ := hH.rows.mem hi
  have hA : OkA A p := hS.1
  have hl0 : (fls [.many A p]) = A := by simp [fls]
  have hlt : o < (fls [.many A p]).length := by rw [hl0, hA.1]; exact hk
  have hl := run_store1 (P := P) (W := W) (by rw [(hT.find hty).size, hr]) (g := g) (o := o) h1 (by rw [hr1.cell, List.getElem?_toArray, List.getElem?_eq_getElem hlt]; rfl) (hr1.frozen o)
  unfold Oper.wp execOp
  simp only [ho, hx, hy, Sem.run_bind, hl, Result.andThen_ok, Sem.run_pure]
  refine h _ (hH.upd hi hu ⟨⟨by rw [List.length_set]; exact hA.1, fun z hz => ?_⟩, trivial⟩ ?_ (gb_set (World.grownBy.refl W _) o v))
  · rcases List.mem_or_eq_of_mem_set hz with h | rfl
    · exact hA.2 z h
    · exact h1
  · have := hr1.set o v
    rw [List.setIfInBounds_toArray, hl0] at this
    simpa [fls] using this
theorem run_oldC (hT : TabOk P T) (hH : Hp w0.heap.size w0 W H) (hc : OldC w0 q v) (hty : findT ty T = some e) (hr : e.row = false) : (Instr.loadAt ty (.pointer (some q))).run P W = .ok v W :=
  run_load1 (by rw [(hT.find hty).row, hr]) (by rw [hH.below.cell hc.2, hc.1])
theorem run_oldR (hT : TabOk P T) (hH : Hp w0.heap.size w0 W H) (hc : OldR w0 q (fls S)) (hS : okS S) (hty : findT ty T = some e) (hr : e.row = true) (hl : lenS S = e.size) : (Instr.loadAt ty (.pointer (some q))).run P W = .ok (.agg (fls S).toArray) W := by
  obtain ⟨d, hu, hd⟩ := rowT_true (by rw [(hT.find hty).row, hr])
  have hs := (hT.find hty).size
  unfold sizeT at hs
  have hll : (loadCells q (fls S).length).run P W = .ok (fls S).toArray W :=
    run_loadCells_list (P := P) W q (fls S) (fun j v hv => by rw [hH.below.cell (by rw [add_block]; exact hc.2)]; exact hc.1 j v hv)
  have hi : (P.info? ty).map (·.size) = some (fls S).length := by rw [hs, okS_len hS, hl]
  cases hq : P.info? ty with
  | none => simp [hq] at hi
  | some i =>
    have hs : i.size = (fls S).length := by simpa [hq] using hi
    have hagg : (isAgg ty).run P W = .ok true W := by
      unfold isAgg
      rw [Sem.run_bind, run_underlying hu W]
      cases d <;> simp_all
    simp [Instr.loadAt, Instr.sureAddr, loadVar, Sem.run_bind, hagg, sizeOf, typeInfo, hq, hs, hll]
theorem hLo (hT : TabOk P T) (ho : op.op = .load ty x) (hw : Region.wanted op (yielded ops a.tmps) = true) (hx : a.eval x = .pointer (some q)) (hH : Hp w0.heap.size w0 W H) (hty : findT ty T = some e) (hr : e.row = false)
    (h : ∃ v, OldC w0 q v ∧ ∀ W', Hp w0.heap.size w0 W' H → wpList P ops Q rest (a.put op.dst v) W') : wpList P ops Q (op :: rest) a W := by
  obtain ⟨v, hv, h⟩ := h
  exact wpL_load ho hw hx (run_oldC hT hH hv hty hr) (h W hH)
theorem qLo {K : Act → Prop} (hT : TabOk P T) (ho : op.op = .load ty x) (hx : a.eval x = .pointer (some q)) (hty : findT ty T = some e) (hr : e.row = false)
    (h : ∃ v, OldC w0 q v ∧ K (a.put op.dst v)) : op.quiet P a (fun W' => ∃ y : HW w0.heap.size w0 H, W' = y.w) K := by
  obtain ⟨v, hv, hk⟩ := h
  exact quiet_load ho hx (fun w hw => by obtain ⟨y, rfl⟩ := hw; exact run_oldC hT y.hp hv hty hr) hk
theorem hLoR (hT : TabOk P T) (ho : op.op = .load ty x) (hw : Region.wanted op (yielded ops a.tmps) = true) (hx : a.eval x = .pointer (some q)) (hH : Hp w0.heap.size w0 W H) (hty : findT ty T = some e) (hr : e.row = true)
    (h : ∃ S, OldR w0 q (fls S) ∧ okS S ∧ lenS S = e.size ∧ ∀ W', Hp w0.heap.size w0 W' H → wpList P ops Q rest (a.put op.dst (.agg (fls S).toArray)) W') : wpList P ops Q (op :: rest) a W := by
  obtain ⟨S, h1, h2, h3, h⟩ := h
  exact wpL_load ho hw hx (run_oldR hT hH h1 h2 hty hr h3) (h W hH)
theorem qLoR {K : Act → Prop} (hT : TabOk P T) (ho : op.op = .load ty x) (hx : a.eval x = .pointer (some q)) (hty : findT ty T = some e) (hr : e.row = true)
    (h : ∃ S, OldR w0 q (fls S) ∧ okS S ∧ lenS S = e.size ∧ K (a.put op.dst (.agg (fls S).toArray))) : op.quiet P a (fun W' => ∃ y : HW w0.heap.size w0 H, W' = y.w) K := by
  obtain ⟨S, h1, h2, h3, hk⟩ := h
  exact quiet_load ho hx (fun w hw => by obtain ⟨y, rfl⟩ := hw; exact run_oldR hT y.hp h1 h2 hty hr h3) hk
/-- the same cells, in other pieces -/
theorem Hp.re0 (h : Hp B w0 W ((g, t, b, S) :: H)) (hf : fls S = fls S') (hS : okS S') : Hp B w0 W ((g, t, b, S') :: H) :=
  ⟨h.below, h.base, ⟨by rw [← hf]; exact h.rows.1.1, hS, h.rows.1.2.2⟩, h.rows.2⟩
/-! ### blocks in another order -/
theorem HpRows.iff : ∀ {H : HB}, HpRows B W H ↔ (∀ r ∈ H, Row W r.1 r.2.1 (fls r.2.2.2).toArray ∧ okS r.2.2.2 ∧ (r.2.2.1 = true → B ≤ r.1)) ∧ (H.map (·.1)).Nodup
  | [] => by simp [HpRows]
  | r :: H => by
    have ih := HpRows.iff (H := H)
    rw [HpRows, ih]
    constructor
    · rintro ⟨h1, h2, h3, h4⟩
      refine ⟨fun s hs => ?_, ?_⟩
      · rcases List.mem_cons.1 hs with rfl | hs
        · exact h1
        · exact h3 s hs
      · rw [List.map_cons, List.nodup_cons]
        refine ⟨fun hm => ?_, h4⟩
        obtain ⟨s, hs, he⟩ := List.mem_map.1 hm
        exact h2 s hs he
    · rintro ⟨h1, h2⟩
      rw [List.map_cons, List.nodup_cons] at h2
      exact ⟨h1 r (by simp), fun s hs he => h2.1 (List.mem_map.2 ⟨s, hs, he⟩), fun s hs => h1 s (by simp [hs]), h2.2⟩
theorem Hp.perm (h : Hp B w0 W H) (hp : H.Perm H') : Hp B w0 W H' := by
  obtain ⟨h1, h2⟩ := HpRows.iff.1 h.rows
  exact ⟨h.below, h.base, HpRows.iff.2 ⟨fun r hr => h1 r (hp.mem_iff.2 hr), (hp.map _).nodup_iff.1 h2⟩⟩
theorem Hp.nil (h : Hp B w0 W H) : Hp B w0 W [] := ⟨h.below, h.base, trivial⟩
theorem Hp.subl (h : Hp B w0 W H) (hs : H'.Sublist H) : Hp B w0 W H' := by
  obtain ⟨h1, h2⟩ := HpRows.iff.1 h.rows
  exact ⟨h.below, h.base, HpRows.iff.2 ⟨fun r hr => h1 r (hs.subset hr), h2.sublist (hs.map _)⟩⟩
/-- what a call made beside what was there -/
def Made (w w' : World) (D : HB) : Prop := Hp w.heap.size w w' D ∧ ∀ r ∈ D, r.2.2.1 = true
theorem Hp.join (h : Hp B w0 W H) (hm : Made W W' D) : Hp B w0 W' (H ++ D) := by
  have h' := h.keep hm.1.below
  obtain ⟨h1, h2⟩ := HpRows.iff.1 h'.rows
  obtain ⟨h3, h4⟩ := HpRows.iff.1 hm.1.rows
  refine ⟨h'.below, h'.base, HpRows.iff.2 ⟨fun r hr => ?_, ?_⟩⟩
  · rcases List.mem_append.1 hr with hr | hr
    · exact h1 r hr
    · exact ⟨(h3 r hr).1, (h3 r hr).2.1, fun hb => Nat.le_trans h.base ((h3 r hr).2.2 hb)⟩
  · rw [List.map_append, List.nodup_append]
    refine ⟨h2, h4, fun x hx y hy he => ?_⟩
    obtain ⟨r, hr, e1⟩ := List.mem_map.1 hx
    obtain ⟨s, hs, e2⟩ := List.mem_map.1 hy
    have l1 := h.rows.lt r hr
    have l2 := (h3 s hs).2.2 (hm.2 s hs)
    omega
theorem Hp.joinF (h : Hp B w0 W H) (hm : Made W W' D) : Hp B w0 W' (D ++ H) := (h.join hm).perm List.perm_append_comm
end
end Go.Proofs.YtnobencogihbnaaGreat
