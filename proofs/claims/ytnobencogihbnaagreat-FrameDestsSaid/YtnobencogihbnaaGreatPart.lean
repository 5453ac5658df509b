/-
  Parts of structs that lie in a block: loaded whole; equality of structs by their cells. No program in sight.
-/
import Derived.Test.YtnobencogihbnaaGreatBig
import Derived.DeepKeys
namespace Go.Proofs.YtnobencogihbnaaGreat
open Go.ChangeShapes Go.WideShapes Go.ChangeAt Go.RowKit
set_option linter.unusedVariables false
set_option linter.unusedSimpArgs false

/-- the cells A stand in cs from o on -/
def PartAt (cs : Array Value) (o : Nat) (A : Array Value) : Prop := ∃ pre post, cs.toList = pre ++ (A.toList ++ post) ∧ pre.length = o
section
variable {P : Program} {w : World} {g : Nat} {t : TypeId} {cs A : Array Value}
theorem Row.rangePart (h : Row w g t cs) {o : Nat} (hp : PartAt cs o A) : w.rangeAt g o A.toList := fun j v hv => by
  obtain ⟨pre, post, h1, h2⟩ := hp
  rw [h.cell, ← Array.getElem?_toList, h1, List.getElem?_append_right (by omega), show o + j - pre.length = j by omega]
  rw [List.getElem?_append_left (List.getElem?_eq_some_iff.1 hv).1]
  exact hv
theorem wpList_loadP {ops : Array Oper} {rest : List Oper} {op : Oper} {a : Act} {Q : Exit → Act → World → Prop} (ty : TypeId) {x : Operand} (ho : op.op = .load ty x) (hw : Region.wanted op (yielded ops a.tmps) = true)
    {g o : Nat} (hx : a.eval x = .pointer (some ⟨g, o, none⟩)) {d : TypeDesc} (hu : P.underlying ty = some d) (hd : d.isRow = true)
    (h : ∃ t cs A, Row w g t cs ∧ PartAt cs o A ∧ (P.info? ty).map (·.size) = some A.size ∧ wpList P ops Q rest (a.put op.dst (.agg A)) w) : wpList P ops Q (op :: rest) a w := by
  obtain ⟨t, cs, A, hr, hp, hi, h⟩ := h
  unfold wpList
  rw [if_pos hw]
  exact Or.inl (wp_load_mid ty x ho g o hx A.toList d (hr.rangePart hp) hu hd (by simpa using hi) (by simpa using h))
theorem quiet_loadP {B : Nat} {W : World} {K : Act → Prop} {op : Oper} {a : Act} (ty : TypeId) {x : Operand} (ho : op.op = .load ty x) {g o : Nat} (hx : a.eval x = .pointer (some ⟨g, o, none⟩)) {d : TypeDesc} (hu : P.underlying ty = some d) (hd : d.isRow = true)
    (h : ∃ t cs A, g < B ∧ Row W g t cs ∧ PartAt cs o A ∧ (P.info? ty).map (·.size) = some A.size ∧ K (a.put op.dst (.agg A))) : op.quiet P a (fun w' => ∃ y : BW B W, w' = y.w) K := by
  obtain ⟨t, cs, A, hg, hr, hp, hi, hk⟩ := h
  refine quiet_load ho hx (fun w hw => ?_) hk
  obtain ⟨y, rfl⟩ := hw
  have hl := run_loadAt_mid (P := P) y.w g o ty A.toList d ((hr.bw hg).rangePart hp) hu hd (by simpa using hi)
  simpa using hl
/-- a struct's literal, by a law -/
theorem quiet_build {C : World → Prop} {K : Act → Prop} {o : Oper} {a : Act} {ty : TypeId} {parts : Array (Nat × Operand)} {pv : Array (Nat × Value)} {v : Value} (h : ∀ w, (Instr.build ty pv).run P w = .ok v w) (ho : o.op = .build ty parts)
    (hl : (parts.toList.map fun p => (p.1, a.eval p.2)) = pv.toList) (hk : K (a.put o.dst v)) : o.quiet P a C K := by
  have hp : (parts.map fun (i, x) => (i, a.eval x)) = pv := by apply Array.ext'; rw [Array.toList_map]; exact hl
  refine ⟨v, fun w _ => ?_, hk⟩
  unfold Oper.quietAt execOp
  simp only [ho, hp, Sem.run_bind, h w, Result.andThen_ok, Sem.run_pure]
  exact ⟨rfl, rfl⟩
theorem wpList_buildF {ops : Array Oper} {rest : List Oper} {o : Oper} {a : Act} {Q : Exit → Act → World → Prop} {ty : TypeId} {parts : Array (Nat × Operand)} {pv : Array (Nat × Value)} {v : Value} (h : ∀ w, (Instr.build ty pv).run P w = .ok v w) (ho : o.op = .build ty parts)
    (hw : Region.wanted o (yielded ops a.tmps) = true) (hl : (parts.toList.map fun p => (p.1, a.eval p.2)) = pv.toList) (hk : wpList P ops Q rest (a.put o.dst v) w) : wpList P ops Q (o :: rest) a w := by
  have hp : (parts.map fun (i, x) => (i, a.eval x)) = pv := by apply Array.ext'; rw [Array.toList_map]; exact hl
  unfold wpList
  rw [if_pos hw]
  refine Or.inl ?_
  unfold Oper.wp execOp
  simp only [ho, hp, Sem.run_bind, h w, Result.andThen_ok, Sem.run_pure]
  exact hk
/-- cells put in from o on -/
def splice (cs : Array Value) (o : Nat) (vs : List Value) : Array Value := (cs.toList.take o ++ (vs ++ cs.toList.drop (o + vs.length))).toArray
theorem Row.setAt (h : Row w g t cs) {o : Nat} {vs : List Value} (hs : o + vs.length ≤ cs.size) : Row (w.setCells g o vs) g t (splice cs o vs) := by
  obtain ⟨es, h1, h2, h3⟩ := setCells_row vs o w cs h
  have : es = splice cs o vs := by
    apply Array.ext_getElem?
    intro i
    rw [h3]
    have hc : ∀ j : Nat, cs[j]? = cs.toList[j]? := fun j => (Array.getElem?_toList ..).symm
    have hs' : o + vs.length ≤ cs.toList.length := by simpa using hs
    have hs2 : cs.toList.length = cs.size := by simp
    rw [hc, splice]
    rw [List.getElem?_toArray]
    rw [List.getElem?_append, List.length_take]
    by_cases hi : i < o
    · rw [if_neg (by omega), if_pos (by omega), List.getElem?_take_of_lt hi]
    · rw [if_neg (c := i < min o cs.toList.length) (by omega), List.getElem?_append]
      by_cases hv : i < o + vs.length
      · rw [if_pos ⟨by omega, hv, by omega⟩, if_pos (by omega)]
        congr 1; omega
      · rw [if_neg (by omega), if_neg (by omega), List.getElem?_drop]
        congr 1; omega
  rw [← this]; exact h1
theorem Row.farSet (h : Row w g t cs) {g' : Nat} (hg : g ≠ g') (o : Nat) (vs : List Value) : Row (w.setCells g' o vs) g t cs := (setCells_heap_ne hg vs o w).trans h
end
/-! ### equality by cells -/
section
variable {P : Program}
theorem mapM_all {α β : Type} {f : α → Option β} {g : α → β} : ∀ (xs : List α), (∀ x ∈ xs, f x = some (g x)) → xs.mapM f = some (xs.map g)
  | [], _ => by simp
  | x :: xs, h => by rw [List.mapM_cons, h x (by simp), mapM_all xs (fun y hy => h y (by simp [hy]))]; rfl
theorem lits_bytes {t e : TypeId} {n d : Nat} (ht : P.underlying t = some (.array n e)) (hc : P.cellsOf t = n) (he : P.underlying e = some (.int .u8)) (h1 : P.cellsOf e = 1) {l : List UInt8} (hl : l.length = n) :
    P.keyLits (d + 2) t (l.map byteV) = some (l.map fun b => Lit.int .u8 (b.toNat : Int)) := by
  have hone : ∀ b : UInt8, P.keyLits (d + 1) e [byteV b] = some [Lit.int .u8 (b.toNat : Int)] := fun b => by
    have hb := b.toNat_lt
    unfold Program.keyLits byteV
    rw [he]
    simp only [true_and]
    rw [if_pos]
    simp only [Lit.wf, Bool.and_eq_true, decide_eq_true_eq]
    exact ⟨show (0 : Int) ≤ _ by omega, show _ ≤ (255 : Int) by omega⟩
  have hm : (List.range n).mapM (fun i => P.keyLits (d + 1) e (((l.map byteV).drop (i * P.cellsOf e)).take (P.cellsOf e))) = some ((List.range n).map fun i => [Lit.int .u8 ((l.getD i 0).toNat : Int)]) := by
    refine mapM_all _ (fun i hi => ?_)
    have hi' : i < l.length := by rw [hl]; simpa using hi
    rw [h1, Nat.mul_one, List.drop_eq_getElem_cons (by simpa using hi'), List.take_succ_cons, List.take_zero, List.getElem_map, hone]
    simp [List.getD, List.getElem?_eq_getElem hi']
  unfold Program.keyLits
  rw [ht]
  simp only
  have hlen : (l.map byteV).length = P.cellsOf t := by rw [List.length_map, hl, hc]
  first
    | rw [if_pos hlen, hm]
    | (split <;> first | (simp_all; done) | (rw [if_pos hlen, hm]))
  simp only [Option.map_some, Option.some.injEq]
  rw [← hl]
  clear hm hlen hl hc ht
  induction l with
  | nil => rfl
  | cons b l ih =>
    rw [List.length_cons, List.range_succ_eq_map, List.map_cons, List.flatten_cons, List.map_map, List.map_cons]
    have : ((fun i => [Lit.int .u8 (((b :: l).getD i 0).toNat : Int)]) ∘ Nat.succ) = fun i => [Lit.int .u8 ((l.getD i 0).toNat : Int)] := by
      funext i; simp [Function.comp]
    rw [this, ih]
    rfl
theorem eql_cells {t : TypeId} {A B : Array Value} {la lb : List Lit} {D D' : Nat} (hk : P.keyTypeAt 8 t = true) (fa : (Value.agg A).formed P t = true) (fb : (Value.agg B).formed P t = true)
    (ha : P.keyLits D t A.toList = some la) (hb : P.keyLits D' t B.toList = some lb) (r : Bool) (hr : r = true ↔ la = lb) (w : World) : (binOp .eql t (.agg A) (.agg B)).run P w = .ok (.bool r) w := by
  obtain ⟨r', h1, h2⟩ := run_equalIn_deep (P := P) 9992 8 t hk w D D' (.agg A) (.agg B) la lb fa fb ha hb
  have e : r' = r := by rw [Bool.eq_iff_iff, h2, hr]
  rw [run_eql_struct, show (10000 : Nat) = 9992 + 8 from rfl, h1, e]
  rfl
theorem neq_cells {t : TypeId} {A B : Array Value} {la lb : List Lit} {D D' : Nat} (hk : P.keyTypeAt 8 t = true) (fa : (Value.agg A).formed P t = true) (fb : (Value.agg B).formed P t = true)
    (ha : P.keyLits D t A.toList = some la) (hb : P.keyLits D' t B.toList = some lb) (r : Bool) (hr : r = true ↔ la = lb) (w : World) : (binOp .neq t (.agg A) (.agg B)).run P w = .ok (.bool (!r)) w := by
  obtain ⟨r', h1, h2⟩ := run_equalIn_deep (P := P) 9992 8 t hk w D D' (.agg A) (.agg B) la lb fa fb ha hb
  have e : r' = r := by rw [Bool.eq_iff_iff, h2, hr]
  rw [run_neq_struct, show (10000 : Nat) = 9992 + 8 from rfl, h1, e]
  rfl
/-- a struct's cells are literals if its fields' are -/
theorem lits_struct {t : TypeId} {fs : Array Field} {d : Nat} {cs : List Value} (hu : P.underlying t = some (.struct fs)) (hl : cs.length = P.cellsOf t) (hn : fs.all (·.name != "_") = true) {ls : List (List Lit)}
    (h : fs.toList.mapM (fun f => P.keyLits d f.type ((cs.drop f.offset).take (P.cellsOf f.type))) = some ls) : P.keyLits (d + 1) t cs = some ls.flatten := by
  unfold Program.keyLits
  rw [hu]
  simp only
  first
    | rw [if_pos ⟨hl, hn⟩, h]; rfl
    | (split <;> first | (simp_all; done) | (rw [if_pos ⟨hl, hn⟩, h]; rfl))
theorem lits_i64 {t : TypeId} {d : Nat} {n : Int} (hu : P.underlying t = some (.int .i64)) (h : -9223372036854775808 ≤ n ∧ n ≤ 9223372036854775807) : P.keyLits (d + 1) t [.int .i64 n] = some [.int .i64 n] := by
  unfold Program.keyLits
  rw [hu]
  simp only [true_and]
  rw [if_pos]
  simp only [Lit.wf, Bool.and_eq_true, decide_eq_true_eq]
  exact ⟨show (-9223372036854775808 : Int) ≤ _ by omega, show _ ≤ (9223372036854775807 : Int) by omega⟩
theorem lits_bool {t : TypeId} {d : Nat} {b : Bool} (hu : P.underlying t = some .bool) : P.keyLits (d + 1) t [.bool b] = some [.bool b] := by
  unfold Program.keyLits
  rw [hu]
theorem lits_str {t : TypeId} {d : Nat} {s : ByteArray} (hu : P.underlying t = some .string) (h : s.size ≤ 9223372036854775807) : P.keyLits (d + 1) t [.string s] = some [.string s.data.toList] := by
  unfold Program.keyLits
  rw [hu]
  simp only
  rw [if_pos (by simpa [maxLen] using h)]
end
end Go.Proofs.YtnobencogihbnaaGreat
