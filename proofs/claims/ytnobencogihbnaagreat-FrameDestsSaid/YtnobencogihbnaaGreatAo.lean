/-
  Append of what lies in old memory; blocks among others. No program in sight.
-/
import Derived.Test.YtnobencogihbnaaGreatOld
namespace Go.Proofs.YtnobencogihbnaaGreat
open Go.ChangeShapes Go.WideShapes Go.ChangeAt Go.RowKit
set_option linter.unusedVariables false
set_option linter.unusedSimpArgs false
set_option maxRecDepth 20000
attribute [local irreducible] wpList

theorem SubH.trans {A B C : HB} (h : SubH A B) (k : SubH B C) : SubH A C := by
  induction h generalizing C with
  | refl => exact k
  | drop _ ih => exact .drop (ih k)
  | keep h ih =>
    cases k with
    | refl => exact .keep h
    | drop k => exact .drop (ih k)
    | keep k => exact .keep (ih k)
theorem SubH.appL : ∀ {A B : HB}, SubH (A ++ B) A
  | [], B => SubH.nil
  | _ :: A, B => .keep SubH.appL
theorem SubH.appR : ∀ {A B : HB}, SubH (A ++ B) B
  | [], B => .refl
  | _ :: A, B => .drop SubH.appR
theorem SubH.l {A B D : HB} (h : SubH A D) : SubH (A ++ B) D := SubH.appL.trans h
theorem SubH.r {A B D : HB} (h : SubH B D) : SubH (A ++ B) D := SubH.appR.trans h
theorem SubH.keeps {A B : HB} : ∀ {C : HB}, SubH A B → SubH (C ++ A) (C ++ B)
  | [], h => h
  | _ :: C, h => .keep (SubH.keeps (C := C) h)
/-- cells of old memory, from a place on -/
def OldS (w : World) (q : Addr) (C : List Value) : Prop := ∀ j u, C[j]? = some u → w.cell? (q.add j) = some u
section
variable {P : Program} {T : Tab} {TS : List (Nat × Nat)} {B : Nat} {w0 W : World} {H : HB} {g : Nat} {t el ty : TypeId} {b : Bool} {S : List Seg} {e : TyE}
variable {ops : Array Oper} {rest : List Oper} {op : Oper} {a : Act} {Q : Exit → Act → World → Prop} {x s : Operand} {n c m cx p q : Nat} {L J C : List Value} {qa : Addr}
/-- append of what lies in old memory to what is owned -/
theorem hAppO (i : Nat) (hT : TabOk P T) (hTS : TabSOk P TS) (hfs : findS ty TS = some el) (hty : findT el T = some e) (hlz : lenS e.zero = e.size) (hgd : op.guard = none)
    (ho : op.op = .call { callee := .builtin .append, args := #[s, x], argTypes := #[ty, ty] }) (hs : a.eval s = .slice (some ⟨g, 0, none⟩) n c) (hx : a.eval x = .slice (some qa) m cx) (hH : Hp B w0 W H)
    (hi : nthH H i = some (g, el, true, [.many L p, .many J q])) (hsz : Nat.ble 1 e.size = true)
    (h : ∃ C, OldS W qa C ∧ OkA C (m * e.size) ∧ Grow e.size n c p q ∧ n + m ≤ 1000000 ∧ ∀ W' g' c' p' q' J', Grow e.size (n + m) c' p' q' → OkA (L ++ C) p' → OkA J' q' → Hp B w0 W' (putH H i (g', el, true, [.many (L ++ C) p', .many J' q'])) → wpList P ops Q rest (a.put op.dst (.slice (some ⟨g', 0, none⟩) (n + m) c')) W') : wpList P ops Q (op :: rest) a W := by
  obtain ⟨C, hnews, hC, hG, hml, h⟩ := h
  have hsz := Nat.le_of_ble_eq_true hsz
  have hu := (hTS.find hfs).slice
  have hby := (hTS.find hfs).bytes
  obtain ⟨hr1, hS, hB⟩ := hH.rows.mem hi
  obtain ⟨ie, z, hq, hz, e1, e2, e3⟩ := elem_parts hT hty hlz
  have hby : ie.bytes ≤ 100000 := by unfold bytesOk at hby; rw [hq] at hby; exact Nat.le_of_ble_eq_true hby
  have hLl : L.length = p := hS.1.1
  have hJl : J.length = q := hS.2.1.1
  have hxl := hC.1
  rw [fls_two] at hr1
  have okL : OkA (L ++ C) ((n + m) * e.size) := ⟨by rw [List.length_append, hLl, hxl, hG.hp, Nat.add_mul], fun v hv => by
    rcases List.mem_append.1 hv with hv | hv
    · exact hS.1.2 v hv
    · exact hC.2 v hv⟩
  by_cases hroom : n + m ≤ c
  · have hmul : (n + m) * e.size ≤ c * e.size := Nat.mul_le_mul_right _ hroom
    have hmm : n * e.size + m * e.size = (n + m) * e.size := (Nat.add_mul _ _ _).symm
    have hp := hG.hp
    have hqq := hG.hq
    have hr := run_append_room (P := P) W ty op.type el ie hu hq g n c (L ++ J).toArray hr1 qa m cx C (by rw [hxl, e1]) hnews hC.2 hroom (by simp [hLl, hJl, hxl, e1]; omega)
    refine at_app hgd ho hs hx hr ?_
    have hcell : (((L ++ J).toArray.toList.take (n * ie.size) ++ C ++ (L ++ J).toArray.toList.drop (n * ie.size + C.length)).toArray : Array Value) = (fls [.many (L ++ C) ((n + m) * e.size), .many (J.drop (m * e.size)) (c * e.size - (n + m) * e.size)]).toArray := by
      rw [fls_two, e1, hxl, ← hp]
      congr 1
      simp only [List.append_assoc]
      rw [List.take_append_of_le_length (by omega), List.take_of_length_le (by omega)]
      congr 2
      rw [List.drop_append, List.drop_of_length_le (by omega), List.nil_append, hLl, Nat.add_sub_cancel_left]
    have okJ : OkA (J.drop (m * e.size)) (c * e.size - (n + m) * e.size) := ⟨by rw [List.length_drop, hJl]; omega, fun v hv => hS.2.1.2 v (List.mem_of_mem_drop hv)⟩
    have hgr : W.grownBy (W.setRow g ((L ++ J).toArray.toList.take (n * ie.size) ++ C ++ (L ++ J).toArray.toList.drop (n * ie.size + C.length)).toArray) (some g) :=
      ⟨rfl, rfl, rfl, by simp, fun k _ hk => setRow_other W g k _ (fun e => hk (by simp [e]))⟩
    refine h _ g c ((n + m) * e.size) (c * e.size - (n + m) * e.size) (J.drop (m * e.size)) ⟨rfl, by omega, hroom, hG.most⟩ okL okJ ?_
    refine ⟨below_gb hH.below hgr (hB rfl) hH.base, Nat.le_trans hH.base hgr.size, HpRows.put ?_ (show okS [.many (L ++ C) ((n + m) * e.size), .many (J.drop (m * e.size)) (c * e.size - (n + m) * e.size)] from ⟨okL, okJ, trivial⟩) (fun _ => hB rfl) hgr hH.rows hi (.inl rfl)⟩
    rw [← hcell]
    exact setRow_heap W g _ _ el _ hr1
  · have hr := run_append_grow (P := P) W ty op.type el ie z hu hq hz ⟨g, 0, none⟩ n c L (by rw [hLl, e1, hG.hp]) (fun j u hu => by
      rw [show (⟨g, 0, none⟩ : Addr).add j = ⟨g, j, none⟩ by unfold Addr.add; split <;> simp_all, hr1.cell, List.getElem?_toArray, List.getElem?_append_left (List.getElem?_eq_some_iff.1 hu).1]
      exact hu) qa m cx C (by rw [hxl, e1]) hnews (by omega) (by omega) (growslice_fits (by omega) (Nat.le_trans (Nat.mul_le_mul hml hby) (by decide)))
    refine at_app hgd ho hs hx hr ?_
    have hge := grownCap_ge W (n + m) c el
    have hmost : grownCap W (n + m) c el ≤ maxLen := grownCap_le_maxLen W (n + m) c el (by simp only [maxLen]; omega)
    generalize grownCap W (n + m) c el = c' at *
    have hzc : Builtin.zeroCells z.cells (c' - (n + m)) = (fls (repS (c' - (n + m)) e.zero)).toArray := rep_cells e2 (by omega) _
    have hoz := okS_rep (hT.find hty).okz (c' - (n + m))
    have hlr : lenS (repS (c' - (n + m)) e.zero) = (c' - (n + m)) * e.size := by rw [lenS_rep, hlz]
    have hmul : (n + m) * e.size + (c' - (n + m)) * e.size = c' * e.size := by rw [← Nat.add_mul]; congr 1; omega
    have hcell : (L.toArray ++ C.toArray ++ Builtin.zeroCells z.cells (c' - (n + m)) : Array Value) = (fls [.many (L ++ C) ((n + m) * e.size), .many (fls (repS (c' - (n + m)) e.zero)) ((c' - (n + m)) * e.size)]).toArray := by
      rw [hzc, fls_two]; simp
    rw [hcell]
    have okJ := okA_fls hoz hlr
    refine h _ W.heap.size c' ((n + m) * e.size) ((c' - (n + m)) * e.size) _ ⟨rfl, hmul, hge, hmost⟩ okL okJ ?_
    have hgr : W.grownBy (W.drew.alloc (.cells (fls [.many (L ++ C) ((n + m) * e.size), .many (fls (repS (c' - (n + m)) e.zero)) ((c' - (n + m)) * e.size)]).toArray el)) (some g) := ⟨rfl, rfl, rfl, by simp, fun k hk _ => heap_alloc_old W.drew _ hk⟩
    refine ⟨below_gb hH.below hgr (hB rfl) hH.base, Nat.le_trans hH.base hgr.size, HpRows.put (Row.new W.drew el _) (show okS [.many (L ++ C) ((n + m) * e.size), .many (fls (repS (c' - (n + m)) e.zero)) ((c' - (n + m)) * e.size)] from ⟨okL, okJ, trivial⟩) (fun _ => hH.base) hgr hH.rows hi (.inr fun s hs e => ?_)⟩
    have h1 := hH.rows.lt s hs
    have h2 : W.drew.heap.size = W.heap.size := rfl
    omega
theorem OldS.below {w W : World} (h : OldS w qa C) (hb : Below w.heap.size w W) : OldS W qa C := fun j u hj => by
  have := h j u hj
  rw [hb.cell (cell_lt1 this)]
  exact this
/-- the empty slice -/
theorem hSl0 (hT : TabOk P T) (ho : op.op = .buildSlice ty 0 #[]) (hw : Region.wanted op (yielded ops a.tmps) = true) (hTS : TabSOk P TS) (hfs : findS ty TS = some el) (hty : findT el T = some e) (hlz : lenS e.zero = e.size) (hH : Hp B w0 W H)
    (h : ∀ W' g, Hp B w0 W' ((g, el, true, [.many [] 0, .many [] 0]) :: H) → wpList P ops Q rest (a.put op.dst (.slice (some ⟨g, 0, none⟩) 0 0)) W') : wpList P ops Q (op :: rest) a W := by
  have hu := (hTS.find hfs).slice
  obtain ⟨ie, z, hie, hz, e1, e2, e3⟩ := elem_parts hT hty hlz
  have hrun : (Instr.buildSlice ty 0 #[]).run P W = .ok (.slice (some ⟨W.heap.size, 0, none⟩) 0 0) (W.alloc (.cells #[] el)) := by
    simp [Instr.buildSlice, run_underlying hu, sizeOf, typeInfo, zeroValue, hie, hz, newRow, Instr.fill]
    refine congrArg (fun c => W.alloc (.cells c el)) (Array.ext' ?_)
    simp
  unfold wpList
  rw [if_pos hw]
  refine Or.inl ?_
  unfold Oper.wp execOp
  simp only [ho, List.map_toArray, List.map_nil, Sem.run_bind, hrun, Result.andThen_ok, Sem.run_pure]
  exact h _ _ (hH.alloc el (S := [.many [] 0, .many [] 0]) ⟨⟨rfl, by simp⟩, ⟨rfl, by simp⟩, trivial⟩)
end
end Go.Proofs.YtnobencogihbnaaGreat
