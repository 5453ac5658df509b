/-
  Joined texts: Big, Part, Held.
-/
import Derived.Test.YtdnehjhijmeihaaGreatQMem
import Derived.Test.YtdnehjhijmeihaaGreatQKit
import Derived.Deep.MidRow
import Derived.DeepKeys
import Derived.OrdersHeld
namespace Go.Proofs.YtdnehjhijmeihaaGreat
open Go.ChangeShapes Go.WideShapes Go.ChangeAt Go.RowKit
set_option linter.unusedVariables false
set_option linter.unusedSimpArgs false
@[simp, go_sem] theorem ltA2 (n : Nat) : (n < n + 1 + 1) = True := by exact eq_true (by omega)
@[simp, go_sem] theorem ltA3 (n : Nat) : (n < n + 1 + 1 + 1) = True := by exact eq_true (by omega)
@[simp, go_sem] theorem ltA4 (n : Nat) : (n < n + 1 + 1 + 1 + 1) = True := by exact eq_true (by omega)
@[simp, go_sem] theorem ltA5 (n : Nat) : (n < n + 1 + 1 + 1 + 1 + 1) = True := by exact eq_true (by omega)
@[simp, go_sem] theorem leA2 (n : Nat) : (n ≤ n + 1 + 1) = True := by exact eq_true (by omega)
@[simp, go_sem] theorem leA3 (n : Nat) : (n ≤ n + 1 + 1 + 1) = True := by exact eq_true (by omega)
section
variable {P : Program} {w : World} {g : Nat} {t : TypeId} {cs ds : Array Value}
theorem Row.range (h : Row w g t cs) : w.rangeAt g 0 cs.toList := fun j v hv => by
  rw [h.cell, Nat.zero_add, ← Array.getElem?_toList]; exact hv
theorem Row.there (h : Row w g t cs) {n : Nat} (hn : n ≤ cs.size) : w.there g 0 n := fun j hj => by
  rw [h.cell, h.frozen, Nat.zero_add]
  exact ⟨by rw [Array.getElem?_eq_getElem (by omega)]; rfl, rfl⟩
theorem setCells_row (vs : List Value) : ∀ (o : Nat) (w : World) (cs : Array Value), Row w g t cs → ∃ ds : Array Value, Row (w.setCells g o vs) g t ds ∧ ds.size = cs.size ∧ ∀ i, ds[i]? = if o ≤ i ∧ i < o + vs.length ∧ i < cs.size then vs[i - o]? else cs[i]? := by
  induction vs with
  | nil => intro o w cs h; exact ⟨cs, h, rfl, fun i => by rw [if_neg (by simp; omega)]⟩
  | cons v vs ih =>
    intro o w cs h
    obtain ⟨ds, h1, h2, h3⟩ := ih (o + 1) _ _ (h.set o v)
    refine ⟨ds, h1, by rw [h2]; simp, fun i => ?_⟩
    rw [h3]
    simp only [Array.size_setIfInBounds, List.length_cons]
    by_cases hi : i = o
    · subst hi
      rw [if_neg (by omega)]
      by_cases hs : i < cs.size
      · rw [if_pos ⟨by omega, by omega, hs⟩, Nat.sub_self, Array.getElem?_setIfInBounds_self_of_lt hs]; rfl
      · rw [if_neg (by omega), Array.getElem?_eq_none (by simp; omega), Array.getElem?_eq_none (by omega)]
    · by_cases hc : o + 1 ≤ i ∧ i < o + 1 + vs.length ∧ i < cs.size
      · rw [if_pos hc, if_pos ⟨by omega, by omega, hc.2.2⟩]
        obtain ⟨k, hk⟩ : ∃ k, i - o = k + 1 := ⟨i - o - 1, by omega⟩
        rw [hk, show i - (o + 1) = k by omega]
        rfl
      · rw [if_neg hc, if_neg (by omega), Array.getElem?_setIfInBounds_ne (by omega)]
theorem setCells_size (g : Nat) : ∀ (vs : List Value) (o : Nat) (w : World), (w.setCells g o vs).heap.size = w.heap.size
  | [], _, _ => rfl
  | v :: vs, o, w => by rw [World.setCells, setCells_size g vs]; simp [World.setCell]
theorem below_setCells {B : Nat} {a w : World} (h : Below B a w) {g : Nat} (hg : B ≤ g) : ∀ (vs : List Value) (o : Nat), Below B a (w.setCells g o vs) := by
  intro vs
  induction vs generalizing w with
  | nil => intro o; exact h
  | cons v vs ih => intro o; rw [World.setCells]; exact ih (h.setCell hg v) _
@[simp, go_sem] theorem setCells_size' (vs : List Value) (o : Nat) (w : World) (g : Nat) : (w.setCells g o vs).heap.size = w.heap.size := setCells_size g vs o w
@[go_sem] theorem setCells_cell_ne (vs : List Value) (o : Nat) (w : World) (g b p : Nat) (h : b ≠ g) : (w.setCells g o vs).cell? ⟨b, p, none⟩ = w.cell? ⟨b, p, none⟩ :=
  World.cell?_setCells_out g vs o w ⟨b, p, none⟩ (fun hb _ => absurd hb h)
@[go_sem] theorem setCell_twice (w : World) (g o : Nat) (u v : Value) : (w.setCell ⟨g, o, none⟩ u).setCell ⟨g, o, none⟩ v = w.setCell ⟨g, o, none⟩ v := by
  unfold World.setCell
  congr 1
  simp only
  apply Array.ext_getElem?
  intro i
  simp only [Array.getElem?_modify]
  split
  · cases w.heap[i]? with
    | none => rfl
    | some o => cases o <;> simp
  · rfl
theorem le_setA {b g o : Nat} {w : World} {vs : List Value} (h : b ≤ w.heap.size) : b ≤ (w.setCells g o vs).heap.size := by rw [setCells_size]; exact h
theorem oneL (l : List Value) (h : l.all (·.oneCell') = true) : l.toArray.all (·.oneCell') = true := by simpa using h
end
section
variable {P : Program} {w : World} {g : Nat} {t : TypeId} {cs A : Array Value}
theorem quiet_build {C : World → Prop} {K : Act → Prop} {o : Oper} {a : Act} {ty : TypeId} {parts : Array (Nat × Operand)} {pv : Array (Nat × Value)} {v : Value} (h : ∀ w, (Instr.build ty pv).run P w = .ok v w) (ho : o.op = .build ty parts)
    (hl : (parts.toList.map fun p => (p.1, a.eval p.2)) = pv.toList) (hk : K (a.put o.dst v)) : o.quiet P a C K := by
  have hp : (parts.map fun (i, x) => (i, a.eval x)) = pv := by apply Array.ext'; rw [Array.toList_map]; exact hl
  refine ⟨v, fun w _ => ?_, hk⟩
  unfold Oper.quietAt execOp
  simp only [ho, hp, Sem.run_bind, h w, Result.andThen_ok, Sem.run_pure]
  exact ⟨rfl, rfl⟩
theorem wpList_buildF {ops : Array Oper} {rest : List Oper} {o : Oper} {a : Act} {Q : Exit → Act → World → Prop} {ty : TypeId} {parts : Array (Nat × Operand)} {pv : Array (Nat × Value)} {v : Value} (h : ∀ w, (Instr.build ty pv).run P w = .ok v w) (ho : o.op = .build ty parts)
    (hw : Region.wanted o (yielded ops a.tmps) = true) (hl : (parts.toList.map fun p => (p.1, a.eval p.2)) = pv.toList) (hk : wpList P ops Q rest (a.put o.dst v) w) : wpList P ops Q (o :: rest) a w := by
  have hp : (parts.map fun (i, x) => (i, a.eval x)) = pv := by apply Array.ext'; rw [Array.toList_map]; exact hl
  unfold wpList
  rw [if_pos hw]
  refine Or.inl ?_
  unfold Oper.wp execOp
  simp only [ho, hp, Sem.run_bind, h w, Result.andThen_ok, Sem.run_pure]
  exact hk
def splice (cs : Array Value) (o : Nat) (vs : List Value) : Array Value := (cs.toList.take o ++ (vs ++ cs.toList.drop (o + vs.length))).toArray
theorem Row.setAt (h : Row w g t cs) {o : Nat} {vs : List Value} (hs : o + vs.length ≤ cs.size) : Row (w.setCells g o vs) g t (splice cs o vs) := by
  obtain ⟨es, h1, h2, h3⟩ := setCells_row vs o w cs h
  have : es = splice cs o vs := by
    apply Array.ext_getElem?
    intro i
    rw [h3]
    have hc : ∀ j : Nat, cs[j]? = cs.toList[j]? := fun j => (Array.getElem?_toList ..).symm
    have hs' : o + vs.length ≤ cs.toList.length := by simpa using hs
    have hs2 : cs.toList.length = cs.size := by simp
    rw [hc, splice]
    rw [List.getElem?_toArray]
    rw [List.getElem?_append, List.length_take]
    by_cases hi : i < o
    · rw [if_neg (by omega), if_pos (by omega), List.getElem?_take_of_lt hi]
    · rw [if_neg (c := i < min o cs.toList.length) (by omega), List.getElem?_append]
      by_cases hv : i < o + vs.length
      · rw [if_pos ⟨by omega, hv, by omega⟩, if_pos (by omega)]
        congr 1; omega
      · rw [if_neg (by omega), if_neg (by omega), List.getElem?_drop]
        congr 1; omega
  rw [← this]; exact h1
end
section
variable {P : Program}
theorem mapM_all {α β : Type} {f : α → Option β} {g : α → β} : ∀ (xs : List α), (∀ x ∈ xs, f x = some (g x)) → xs.mapM f = some (xs.map g)
  | [], _ => by simp
  | x :: xs, h => by rw [List.mapM_cons, h x (by simp), mapM_all xs (fun y hy => h y (by simp [hy]))]; rfl
theorem lits_bytes {t e : TypeId} {n d : Nat} (ht : P.underlying t = some (.array n e)) (hc : P.cellsOf t = n) (he : P.underlying e = some (.int .u8)) (h1 : P.cellsOf e = 1) {l : List UInt8} (hl : l.length = n) :
    P.keyLits (d + 2) t (l.map byteV) = some (l.map fun b => Lit.int .u8 (b.toNat : Int)) := by
  have hone : ∀ b : UInt8, P.keyLits (d + 1) e [byteV b] = some [Lit.int .u8 (b.toNat : Int)] := fun b => by
    have hb := b.toNat_lt
    unfold Program.keyLits byteV
    rw [he]
    simp only [true_and]
    rw [if_pos]
    simp only [Lit.wf, Bool.and_eq_true, decide_eq_true_eq]
    exact ⟨show (0 : Int) ≤ _ by omega, show _ ≤ (255 : Int) by omega⟩
  have hm : (List.range n).mapM (fun i => P.keyLits (d + 1) e (((l.map byteV).drop (i * P.cellsOf e)).take (P.cellsOf e))) = some ((List.range n).map fun i => [Lit.int .u8 ((l.getD i 0).toNat : Int)]) := by
    refine mapM_all _ (fun i hi => ?_)
    have hi' : i < l.length := by rw [hl]; simpa using hi
    rw [h1, Nat.mul_one, List.drop_eq_getElem_cons (by simpa using hi'), List.take_succ_cons, List.take_zero, List.getElem_map, hone]
    simp [List.getD, List.getElem?_eq_getElem hi']
  unfold Program.keyLits
  rw [ht]
  simp only
  have hlen : (l.map byteV).length = P.cellsOf t := by rw [List.length_map, hl, hc]
  first
    | rw [if_pos hlen, hm]
    | (split <;> first | (simp_all; done) | (rw [if_pos hlen, hm]))
  simp only [Option.map_some, Option.some.injEq]
  rw [← hl]
  clear hm hlen hl hc ht
  induction l with
  | nil => rfl
  | cons b l ih =>
    rw [List.length_cons, List.range_succ_eq_map, List.map_cons, List.flatten_cons, List.map_map, List.map_cons]
    have : ((fun i => [Lit.int .u8 (((b :: l).getD i 0).toNat : Int)]) ∘ Nat.succ) = fun i => [Lit.int .u8 ((l.getD i 0).toNat : Int)] := by
      funext i; simp [Function.comp]
    rw [this, ih]
    rfl
theorem eql_cells {t : TypeId} {A B : Array Value} {la lb : List Lit} {D D' : Nat} (hk : P.keyTypeAt 8 t = true) (fa : (Value.agg A).formed P t = true) (fb : (Value.agg B).formed P t = true)
    (ha : P.keyLits D t A.toList = some la) (hb : P.keyLits D' t B.toList = some lb) (r : Bool) (hr : r = true ↔ la = lb) (w : World) : (binOp .eql t (.agg A) (.agg B)).run P w = .ok (.bool r) w := by
  obtain ⟨r', h1, h2⟩ := run_equalIn_deep (P := P) 9992 8 t hk w D D' (.agg A) (.agg B) la lb fa fb ha hb
  have e : r' = r := by rw [Bool.eq_iff_iff, h2, hr]
  rw [run_eql_struct, show (10000 : Nat) = 9992 + 8 from rfl, h1, e]
  rfl
theorem lits_struct {t : TypeId} {fs : Array Field} {d : Nat} {cs : List Value} (hu : P.underlying t = some (.struct fs)) (hl : cs.length = P.cellsOf t) (hn : fs.all (·.name != "_") = true) {ls : List (List Lit)}
    (h : fs.toList.mapM (fun f => P.keyLits d f.type ((cs.drop f.offset).take (P.cellsOf f.type))) = some ls) : P.keyLits (d + 1) t cs = some ls.flatten := by
  unfold Program.keyLits
  rw [hu]
  simp only
  first
    | rw [if_pos ⟨hl, hn⟩, h]; rfl
    | (split <;> first | (simp_all; done) | (rw [if_pos ⟨hl, hn⟩, h]; rfl))
theorem lits_bool {t : TypeId} {d : Nat} {b : Bool} (hu : P.underlying t = some .bool) : P.keyLits (d + 1) t [.bool b] = some [.bool b] := by
  unfold Program.keyLits
  rw [hu]
end
section
variable {P : Program} {l : List Oper} {Q : Exit → Act → World → Prop} {a : Act} {w : World} {o : Oper} {fuel : Nat} {listed : Array Bool} {B : Nat} {W : World}
def valueKindH (o : Oper) : Bool := valueKind o || match o.op with | .load .. | .fieldAddr .. | .indexAddr .. | .build .. | .nilCheck .. | .slice .. => true | .call ⟨.builtin .len, _, _⟩ | .call ⟨.builtin .min, _, _⟩ | .call ⟨.builtin .max, _, _⟩ => true | _ => false
theorem exec_valueH {o : Oper} {ρ : Operand → Value} (hk : valueKindH o = true) {w w' : World} {n : Next} (h : (execOp ρ o).run P w = .ok n w') : ∃ u, n = .value u := by
  unfold valueKindH at hk
  rw [Bool.or_eq_true] at hk
  rcases hk with hk | hk
  · exact exec_value hk h
  · unfold execOp at h
    generalize o.op = op at h hk
    cases op <;> first | (simp at hk; done) | exact bind_value h | skip
    case nilCheck x =>
      simp only at h
      split at h
      · simp [runtimePanic] at h
      · simp [runtimePanic] at h
      · simp [runtimePanic] at h
      · split at h
        · simp [runtimePanic] at h
        · rw [Sem.run_bind] at h
          generalize (Sem.run P program w) = r1 at h
          cases r1 with
          | halt x w1 => simp [Result.andThen] at h
          | ok p1 w1 =>
            simp only [Result.andThen, Sem.run_bind] at h
            generalize Sem.run P (nilAhead _ _ _ _) w1 = r2 at h
            cases r2 with
            | halt x w2 => simp [Result.andThen] at h
            | ok p2 w2 =>
              simp only [Result.andThen] at h
              split at h
              · simp [unsupported] at h
              · simp at h; exact ⟨_, h.1.symm⟩
        · simp at h; exact ⟨_, h.1.symm⟩
      · simp at h; exact ⟨_, h.1.symm⟩
    case call c =>
      obtain ⟨callee, args, tys⟩ := c
      cases callee <;> first | (simp at hk; done) | skip
      rename_i b
      cases b <;> first | (simp at hk; done) | skip
      all_goals
        simp only [resolve, Sem.run_bind, Sem.run_pure, Result.andThen_ok, invoke, builtin] at h
        exact bind_value (by rw [Sem.run_bind]; exact h)
end
end Go.Proofs.YtdnehjhijmeihaaGreat
