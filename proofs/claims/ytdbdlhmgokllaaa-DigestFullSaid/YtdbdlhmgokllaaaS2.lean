/-
  Parts of blocks: copy of cells into a block, append of zeros, a block's cells by other pieces. No program in sight.
-/
import Derived.Test.YtdbdlhmgokllaaaPl
import Derived.Lib.AppendZerosOnto
import Derived.Lib.Overlaps
namespace Go.Proofs.Ytdbdlhmgokllaaa
open Go.ChangeShapes Go.WideShapes Go.ChangeAt Go.RowKit
set_option linter.unusedVariables false
set_option linter.unusedSimpArgs false
set_option maxRecDepth 20000
attribute [local irreducible] wpList

theorem run_copy_at {P : Program} (w : World) (dT sT ty elem : TypeId) (b o dLen dCap : Nat) (q : Addr) (sLen sCap sz : Nat) (cs : List Value)
    (hu : P.underlying dT = some (.slice elem)) (hs : (P.info? elem).map (·.size) = some sz) (hn : cs.length = Nat.min sLen dLen * sz)
    (hsrc : ∀ j v, cs[j]? = some v → w.cell? (q.add j) = some v) (hc : ∀ j, j < cs.length → (w.cell? ⟨b, o + j, none⟩).isSome = true) (hf : ∀ j, j < cs.length → w.frozen? ⟨b, o + j, none⟩ = false) (h1 : ∀ v ∈ cs, v.oneCell' = true) :
    (Builtin.copy_ #[dT, sT] ty #[.slice (some ⟨b, o, none⟩) dLen dCap, .slice (some q) sLen sCap]).run P w = .ok (goInt (Nat.min sLen dLen)) (w.setCells b o cs) := by
  have hl := run_loadCells_list (P := P) w q cs hsrc
  have hst := run_storeCells_cells (P := P) b o cs 0 w (by simpa using hc) (by simpa using hf) h1
  cases hq : P.info? elem with
  | none => simp [hq] at hs
  | some i =>
    have hi : i.size = sz := by simpa [hq] using hs
    simp [Builtin.copy_, run_underlying hu, Builtin.lenOf, Builtin.firstCells, sizeOf, typeInfo, hq, hi, ← hn, hl, hst]
section
variable {P : Program} {T : Tab} {TS : List (Nat × Nat)} {B : Nat} {w0 W : World} {H : HB} {g gx : Nat} {t el ty ty' tn : TypeId} {b : Bool} {S : List Seg} {e : TyE}
variable {ops : Array Oper} {rest : List Oper} {op : Oper} {a : Act} {Q : Exit → Act → World → Prop} {x s y : Operand} {n c m cx p q o : Nat} {L J C A : List Value} {qa : Addr} {v : Value} {kn : IntKind} {z : Int}
theorem Row.shape {w : World} {g : Nat} {t : TypeId} {cs : Array Value} (h : Row w g t cs) : w.shape? g = some (t, cs.size) := by
  unfold Row at h
  simp [World.shape?, h]
/-- copy of cells into a block -/
theorem hCpy (i : Nat) (hT : TabOk P T) (hTS : TabSOk P TS) (hfs : findS ty TS = some el) (hty : findT el T = some e) (hgd : op.guard = none)
    (ho : op.op = .call { callee := .builtin .copy, args := #[s, x], argTypes := #[ty, ty'] }) (hs : a.eval s = .slice (some ⟨g, o, none⟩) n c) (hx : a.eval x = .slice (some qa) m cx) (hH : Hp B w0 W H)
    (hi : nthH H i = some (g, t, true, S))
    (h : ∃ C pre old post S', OldS W qa C ∧ C.length = Nat.min m n * e.size ∧ (∀ v ∈ C, v.oneCell' = true) ∧ fls S = pre ++ (old ++ post) ∧ pre.length = o ∧ old.length = C.length ∧ okS S' ∧ fls S' = pre ++ (C ++ post) ∧
      ∀ W' H', updH H i S' = some H' → Hp B w0 W' H' → wpList P ops Q rest (a.put op.dst (goInt (Nat.min m n))) W') : wpList P ops Q (op :: rest) a W := by
  obtain ⟨C, pre, old, post, S', hC, hl, h1, hf, hp, ho2, hS', hf', h⟩ := h
  subst hp
  have hu := (hTS.find hfs).slice
  have hz := (hT.find hty).size
  unfold sizeT at hz
  obtain ⟨hr1, hS, hB⟩ := hH.rows.mem hi
  obtain ⟨H', hu'⟩ := upd_ex hi S'
  have hr := run_copy_at (P := P) W ty ty' op.type el g pre.length n c qa m cx e.size C hu hz hl hC (fun j hj => by
      rw [hr1.cell, List.getElem?_toArray, hf, List.getElem?_append_right (by omega), Nat.add_sub_cancel_left, List.getElem?_append_left (by omega), List.getElem?_eq_getElem (by omega)]; rfl) (fun j hj => hr1.frozen _) h1
  have hfin := h _ H' hu' (hH.mid hi hf ho2 hS' hf' hu')
  refine wpList_plain hgd fun K hK => ?_
  unfold Oper.wp execOp
  simp only [ho, resolve, invoke, builtin, Sem.run_bind, Sem.run_pure, Result.andThen_ok, List.map_toArray, List.map_cons, List.map_nil, hs, hx, hr]
  exact hK _ _ hfin
/-- append of zeros, where there is no room -/
theorem hApZ (i : Nat) (hT : TabOk P T) (hTS : TabSOk P TS) (hfs : findS ty TS = some el) (hty : findT el T = some e) (hlz : lenS e.zero = e.size) (hgd : op.guard = none)
    (ho : op.op = .call { callee := .builtin .append, args := #[s, x], argTypes := #[ty, tn] }) (htn : P.underlying tn = some (.int kn)) (hs : a.eval s = .slice (some ⟨g, 0, none⟩) n c) (hx : a.eval x = .int .i64 z) (hH : Hp B w0 W H)
    (hi : nthH H i = some (g, t, b, S)) (hsz : Nat.ble 1 e.size = true)
    (h : ∃ k L R, z = ((k : Nat) : Int) ∧ fls S = L ++ R ∧ L.length = n * e.size ∧ 0 < k ∧ c < n + k ∧ n + k ≤ 1000000 ∧
      ∀ W' g' c' q' Z J', Grow e.size (n + k) c' ((n + k) * e.size) q' → OkA Z (k * e.size) → OkA J' q' → Hp B w0 W' ((g', el, true, [.many (L ++ Z) ((n + k) * e.size), .many J' q']) :: H) → wpList P ops Q rest (a.put op.dst (.slice (some ⟨g', 0, none⟩) (n + k) c')) W') : wpList P ops Q (op :: rest) a W := by
  obtain ⟨k, L, R, rfl, hf, hL, hk, hck, hkl, h⟩ := h
  have hsz := Nat.le_of_ble_eq_true hsz
  have hu := (hTS.find hfs).slice
  have hby := (hTS.find hfs).bytes
  obtain ⟨hr1, hS, hB⟩ := hH.rows.mem hi
  obtain ⟨ie, z, hq, hz, e1, e2, e3⟩ := elem_parts hT hty hlz
  have hby : ie.bytes ≤ 100000 := by unfold bytesOk at hby; rw [hq] at hby; exact Nat.le_of_ble_eq_true hby
  have hold : (Builtin.firstCells ie.size n (.slice (some ⟨g, 0, none⟩) n c)).run P W.drew = .ok L.toArray W.drew := run_firstCells_some W.drew ie.size n ⟨g, 0, none⟩ n c L (by rw [hL, e1]) (fun j u hu => by
      show W.cell? _ = _
      rw [show (⟨g, 0, none⟩ : Addr).add j = ⟨g, j, none⟩ by unfold Addr.add; split <;> simp_all, hr1.cell, List.getElem?_toArray, hf, List.getElem?_append_left (List.getElem?_eq_some_iff.1 hu).1]
      exact hu)
  have hr := Lib.run_append_grow_zeros (P := P) W ty tn op.type el ie z .i64 kn hu htn hq hz (some ⟨g, 0, none⟩) n c L hold k hk (by omega) hck (by omega) (Nat.le_trans (Nat.mul_le_mul (show k ≤ 1000000 by omega) hby) (by decide)) (growslice_fits hck (Nat.le_trans (Nat.mul_le_mul hkl hby) (by decide)))
  have hge := grownCap_ge W (n + k) c el
  have hmost : grownCap W (n + k) c el ≤ maxLen := grownCap_le_maxLen W (n + k) c el (by simp only [maxLen]; omega)
  generalize grownCap W (n + k) c el = c' at *
  have hzc1 : Builtin.zeroCells z.cells k = (fls (repS k e.zero)).toArray := rep_cells e2 (by omega) _
  have hzc : Builtin.zeroCells z.cells (c' - (n + k)) = (fls (repS (c' - (n + k)) e.zero)).toArray := rep_cells e2 (by omega) _
  have hoz1 := okS_rep (hT.find hty).okz k
  have hoz := okS_rep (hT.find hty).okz (c' - (n + k))
  have hlr1 : lenS (repS k e.zero) = k * e.size := by rw [lenS_rep, hlz]
  have hlr : lenS (repS (c' - (n + k)) e.zero) = (c' - (n + k)) * e.size := by rw [lenS_rep, hlz]
  have hmul : (n + k) * e.size + (c' - (n + k)) * e.size = c' * e.size := by rw [← Nat.add_mul]; congr 1; omega
  have hcell : (L.toArray ++ Builtin.zeroCells z.cells k ++ Builtin.zeroCells z.cells (c' - (n + k)) : Array Value) = (fls [.many (L ++ fls (repS k e.zero)) ((n + k) * e.size), .many (fls (repS (c' - (n + k)) e.zero)) ((c' - (n + k)) * e.size)]).toArray := by
    rw [hzc, hzc1, fls_two]; simp
  rw [hcell] at hr
  have okZ := okA_fls hoz1 hlr1
  have okJ := okA_fls hoz hlr
  have okL : OkA (L ++ fls (repS k e.zero)) ((n + k) * e.size) := ⟨by rw [List.length_append, hL, okZ.1, Nat.add_mul], fun v hv => by
    rcases List.mem_append.1 hv with hv | hv
    · exact okS_one hS v (by rw [hf]; exact List.mem_append_left _ hv)
    · exact okZ.2 v hv⟩
  refine wpList_plain hgd fun K hK => ?_
  unfold Oper.wp execOp
  simp only [ho, resolve, invoke, builtin, Sem.run_bind, Sem.run_pure, Result.andThen_ok, List.map_toArray, List.map_cons, List.map_nil, hs, hx, hr]
  exact hK _ _ (h _ W.heap.size c' ((c' - (n + k)) * e.size) _ _ ⟨rfl, hmul, hge, hmost⟩ okZ okJ (hH.drew.alloc el ⟨okL, okJ, trivial⟩))
end
end Go.Proofs.Ytdbdlhmgokllaaa
