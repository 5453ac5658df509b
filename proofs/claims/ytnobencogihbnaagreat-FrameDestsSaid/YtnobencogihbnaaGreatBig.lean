/-
  Structs of many cells: read and written whole, by one law each; no program in sight.
-/
import Derived.Test.YtnobencogihbnaaGreatMem
import Derived.Test.YtnobencogihbnaaGreatMix
import Derived.Deep.MidRow
namespace Go.Proofs.YtnobencogihbnaaGreat
open Go.ChangeShapes Go.WideShapes Go.ChangeAt Go.RowKit
set_option linter.unusedVariables false
set_option linter.unusedSimpArgs false

@[simp, go_sem] theorem ltA2 (n : Nat) : (n < n + 1 + 1) = True := by exact eq_true (by omega)
@[simp, go_sem] theorem ltA3 (n : Nat) : (n < n + 1 + 1 + 1) = True := by exact eq_true (by omega)
@[simp, go_sem] theorem ltA4 (n : Nat) : (n < n + 1 + 1 + 1 + 1) = True := by exact eq_true (by omega)
@[simp, go_sem] theorem ltA5 (n : Nat) : (n < n + 1 + 1 + 1 + 1 + 1) = True := by exact eq_true (by omega)
@[simp, go_sem] theorem leA2 (n : Nat) : (n ≤ n + 1 + 1) = True := by exact eq_true (by omega)
@[simp, go_sem] theorem leA3 (n : Nat) : (n ≤ n + 1 + 1 + 1) = True := by exact eq_true (by omega)
section
variable {P : Program} {w : World} {g : Nat} {t : TypeId} {cs ds : Array Value}
theorem Row.range (h : Row w g t cs) : w.rangeAt g 0 cs.toList := fun j v hv => by
  rw [h.cell, Nat.zero_add, ← Array.getElem?_toList]; exact hv
theorem Row.there (h : Row w g t cs) {n : Nat} (hn : n ≤ cs.size) : w.there g 0 n := fun j hj => by
  rw [h.cell, h.frozen, Nat.zero_add]
  exact ⟨by rw [Array.getElem?_eq_getElem (by omega)]; rfl, rfl⟩
theorem Row.newAt {o : Nat} (h : o = w.heap.size) : Row (w.alloc (.cells cs t)) o t cs := by subst h; exact Row.new w t cs
theorem setCells_row (vs : List Value) : ∀ (o : Nat) (w : World) (cs : Array Value), Row w g t cs → ∃ ds : Array Value, Row (w.setCells g o vs) g t ds ∧ ds.size = cs.size ∧ ∀ i, ds[i]? = if o ≤ i ∧ i < o + vs.length ∧ i < cs.size then vs[i - o]? else cs[i]? := by
  induction vs with
  | nil => intro o w cs h; exact ⟨cs, h, rfl, fun i => by rw [if_neg (by simp; omega)]⟩
  | cons v vs ih =>
    intro o w cs h
    obtain ⟨ds, h1, h2, h3⟩ := ih (o + 1) _ _ (h.set o v)
    refine ⟨ds, h1, by rw [h2]; simp, fun i => ?_⟩
    rw [h3]
    simp only [Array.size_setIfInBounds, List.length_cons]
    by_cases hi : i = o
    · subst hi
      rw [if_neg (by omega)]
      by_cases hs : i < cs.size
      · rw [if_pos ⟨by omega, by omega, hs⟩, Nat.sub_self, Array.getElem?_setIfInBounds_self_of_lt hs]; rfl
      · rw [if_neg (by omega), Array.getElem?_eq_none (by simp; omega), Array.getElem?_eq_none (by omega)]
    · by_cases hc : o + 1 ≤ i ∧ i < o + 1 + vs.length ∧ i < cs.size
      · rw [if_pos hc, if_pos ⟨by omega, by omega, hc.2.2⟩]
        obtain ⟨k, hk⟩ : ∃ k, i - o = k + 1 := ⟨i - o - 1, by omega⟩
        rw [hk, show i - (o + 1) = k by omega]
        rfl
      · rw [if_neg hc, if_neg (by omega), Array.getElem?_setIfInBounds_ne (by omega)]
theorem Row.setAll (h : Row w g t cs) (hs : ds.size = cs.size) : Row (w.setCells g 0 ds.toList) g t ds := by
  obtain ⟨es, h1, h2, h3⟩ := setCells_row ds.toList 0 w cs h
  have : es = ds := by
    apply Array.ext_getElem?
    intro i
    rw [h3]
    by_cases hi : i < ds.size
    · rw [if_pos (by simp; omega)]; simp
    · rw [if_neg (by simp; omega), Array.getElem?_eq_none (by omega), Array.getElem?_eq_none (by omega)]
  rw [← this]; rw [this] at h1 ⊢; exact h1
theorem setCells_heap_ne {g g' : Nat} (hg : g' ≠ g) : ∀ (vs : List Value) (o : Nat) (w : World), (w.setCells g o vs).heap[g']? = w.heap[g']?
  | [], _, _ => rfl
  | v :: vs, o, w => by rw [World.setCells, setCells_heap_ne hg vs]; exact heap_setCell_other w ⟨g, o, none⟩ g' v hg
theorem setCells_size (g : Nat) : ∀ (vs : List Value) (o : Nat) (w : World), (w.setCells g o vs).heap.size = w.heap.size
  | [], _, _ => rfl
  | v :: vs, o, w => by rw [World.setCells, setCells_size g vs]; simp [World.setCell]
theorem Row.farAll (h : Row w g t cs) {g' : Nat} (hg : g ≠ g') (vs : List Value) : Row (w.setCells g' 0 vs) g t cs := (setCells_heap_ne hg vs 0 w).trans h
theorem below_setCells {B : Nat} {a w : World} (h : Below B a w) {g : Nat} (hg : B ≤ g) : ∀ (vs : List Value) (o : Nat), Below B a (w.setCells g o vs) := by
  intro vs
  induction vs generalizing w with
  | nil => intro o; exact h
  | cons v vs ih => intro o; rw [World.setCells]; exact ih (h.setCell hg v) _
@[simp, go_sem] theorem setCells_size' (vs : List Value) (o : Nat) (w : World) (g : Nat) : (w.setCells g o vs).heap.size = w.heap.size := setCells_size g vs o w
@[go_sem] theorem setCells_cell_ne (vs : List Value) (o : Nat) (w : World) (g b p : Nat) (h : b ≠ g) : (w.setCells g o vs).cell? ⟨b, p, none⟩ = w.cell? ⟨b, p, none⟩ :=
  World.cell?_setCells_out g vs o w ⟨b, p, none⟩ (fun hb _ => absurd hb h)
@[go_sem] theorem setCell_twice (w : World) (g o : Nat) (u v : Value) : (w.setCell ⟨g, o, none⟩ u).setCell ⟨g, o, none⟩ v = w.setCell ⟨g, o, none⟩ v := by
  unfold World.setCell
  congr 1
  simp only
  apply Array.ext_getElem?
  intro i
  simp only [Array.getElem?_modify]
  split
  · cases w.heap[i]? with
    | none => rfl
    | some o => cases o <;> simp
  · rfl
theorem BW.lt_of {B b : Nat} {W : World} {x : BW B W} (h : b < W.heap.size) : b < x.w.heap.size := Nat.lt_of_lt_of_le h x.2.size
theorem lt_alloc {b : Nat} {w : World} {o : Obj} (h : b < w.heap.size) : b < (w.alloc o).heap.size := by simp; omega
theorem lt_set {b : Nat} {w : World} {p : Addr} {u : Value} (h : b < w.heap.size) : b < (w.setCell p u).heap.size := by simpa [World.setCell] using h
theorem lt_setA {b g o : Nat} {w : World} {vs : List Value} (h : b < w.heap.size) : b < (w.setCells g o vs).heap.size := by rw [setCells_size]; exact h
theorem lt_drew {b : Nat} {w : World} (h : b < w.heap.size) : b < w.drew.heap.size := h
theorem lt_drewN {b n : Nat} {w : World} (h : b < w.heap.size) : b < (w.drewN n).heap.size := h
theorem le_setA {b g o : Nat} {w : World} {vs : List Value} (h : b ≤ w.heap.size) : b ≤ (w.setCells g o vs).heap.size := by rw [setCells_size]; exact h
theorem oneL (l : List Value) (h : l.all (·.oneCell') = true) : l.toArray.all (·.oneCell') = true := by simpa using h
theorem at_alloc {ops : Array Oper} {l : List Oper} {a : Act} {Q : Exit → Act → World → Prop} (h : wpList P ops Q l a (w.alloc (.cells cs t))) : wpList P ops Q l a (w.alloc (.cells cs t)) := h
theorem wpList_loadR {ops : Array Oper} {rest : List Oper} {op : Oper} {a : Act} {Q : Exit → Act → World → Prop} (ty : TypeId) {x : Operand} (ho : op.op = .load ty x) (hw : Region.wanted op (yielded ops a.tmps) = true)
    {g o : Nat} (hx : a.eval x = .pointer (some ⟨g, o, none⟩)) (h0 : o = 0) {d : TypeDesc} (hu : P.underlying ty = some d) (hd : d.isRow = true) (hr : Row w g t cs) (hi : (P.info? ty).map (·.size) = some cs.size)
    (h : wpList P ops Q rest (a.put op.dst (.agg cs)) w) : wpList P ops Q (op :: rest) a w := by
  subst h0
  unfold wpList
  rw [if_pos hw]
  exact Or.inl (wp_load_mid ty x ho g 0 hx cs.toList d hr.range hu hd (by simpa using hi) h)
theorem wpList_storeR {ops : Array Oper} {rest : List Oper} {op : Oper} {a : Act} {Q : Exit → Act → World → Prop} (ty : TypeId) {x y : Operand} (ho : op.op = .store ty x y) (hw : Region.wanted op (yielded ops a.tmps) = true)
    {g o : Nat} (hx : a.eval x = .pointer (some ⟨g, o, none⟩)) (h0 : o = 0) (hy : a.eval y = .agg ds) (hr : Row w g t cs) (hi : (P.info? ty).map (·.size) = some ds.size) (hs : ds.size = cs.size) (h1 : ds.all (·.oneCell') = true)
    (h : wpList P ops Q rest (a.put op.dst undef) (w.setCells g 0 ds.toList)) : wpList P ops Q (op :: rest) a w := by
  subst h0
  unfold wpList
  rw [if_pos hw]
  exact Or.inl (wp_store_mid ty x y ho g 0 ds hx hy (hr.there (by omega)) hi h1 h)
theorem wpList_loadX {ops : Array Oper} {rest : List Oper} {op : Oper} {a : Act} {Q : Exit → Act → World → Prop} (ty : TypeId) {x : Operand} (ho : op.op = .load ty x) (hw : Region.wanted op (yielded ops a.tmps) = true)
    {g o : Nat} (hx : a.eval x = .pointer (some ⟨g, o, none⟩)) (h0 : o = 0) {d : TypeDesc} (hu : P.underlying ty = some d) (hd : d.isRow = true)
    (h : ∃ cs, Row w g ty cs ∧ (P.info? ty).map (·.size) = some cs.size ∧ wpList P ops Q rest (a.put op.dst (.agg cs)) w) : wpList P ops Q (op :: rest) a w := by
  obtain ⟨cs, hr, hi, h⟩ := h
  exact wpList_loadR ty ho hw hx h0 hu hd hr hi h
theorem wpList_storeX {ops : Array Oper} {rest : List Oper} {op : Oper} {a : Act} {Q : Exit → Act → World → Prop} (ty : TypeId) {x y : Operand} (ho : op.op = .store ty x y) (hw : Region.wanted op (yielded ops a.tmps) = true)
    {g o : Nat} (hx : a.eval x = .pointer (some ⟨g, o, none⟩)) (h0 : o = 0) (hy : a.eval y = .agg ds)
    (h : ∃ cs, Row w g ty cs ∧ (P.info? ty).map (·.size) = some ds.size ∧ ds.size = cs.size ∧ ds.all (·.oneCell') = true ∧ wpList P ops Q rest (a.put op.dst undef) (w.setCells g 0 ds.toList)) : wpList P ops Q (op :: rest) a w := by
  obtain ⟨cs, hr, hi, hs, h1, h⟩ := h
  exact wpList_storeR ty ho hw hx h0 hy hr hi hs h1 h
theorem quiet_loadX {B : Nat} {W : World} {K : Act → Prop} {op : Oper} {a : Act} (ty : TypeId) {x : Operand} (ho : op.op = .load ty x) {g o : Nat} (hx : a.eval x = .pointer (some ⟨g, o, none⟩)) (h0 : o = 0) {d : TypeDesc} (hu : P.underlying ty = some d) (hd : d.isRow = true)
    (h : ∃ cs, g < B ∧ Row W g ty cs ∧ (P.info? ty).map (·.size) = some cs.size ∧ K (a.put op.dst (.agg cs))) : op.quiet P a (fun w' => ∃ y : BW B W, w' = y.w) K := by
  obtain ⟨cs, hg, hr, hi, hk⟩ := h
  subst h0
  refine quiet_load ho hx (fun w hw => ?_) hk
  obtain ⟨y, rfl⟩ := hw
  have hl := run_loadAt_mid (P := P) y.w g 0 ty cs.toList d (hr.bw hg).range hu hd (by simpa using hi)
  simpa using hl
theorem quiet_load_bw {B : Nat} {W : World} {K : Act → Prop} {o : Oper} {a : Act} {ty : TypeId} {x : Operand} {p v : Value} (h : ∀ y : BW B W, (Instr.loadAt ty p).run P y.w = .ok v y.w) (ho : o.op = .load ty x) (hx : a.eval x = p)
    (hk : K (a.put o.dst v)) : o.quiet P a (fun w' => ∃ y : BW B W, w' = y.w) K := quiet_load ho hx (fun w hw => by obtain ⟨y, rfl⟩ := hw; exact h y) hk
/-- a struct of rows by value, boxed, and one of its parts read whole -/
theorem run_part {w : World} {g o : Nat} {t ty : TypeId} {cs A : Array Value} {pre post : List Value} {d : TypeDesc} (hr : Row w g t cs) (hcs : cs.toList = pre ++ (A.toList ++ post)) (ho : pre.length = o)
    (hu : P.underlying ty = some d) (hd : d.isRow = true) (hi : (P.info? ty).map (·.size) = some A.size) :
    (Instr.loadAt ty (.pointer (some ⟨g, o, none⟩))).run P w = .ok (.agg A) w := by
  have h := run_loadAt_mid (P := P) w g o ty A.toList d (fun j v hj => ?_) hu hd (by simpa using hi)
  · simpa using h
  · rw [hr.cell, ← Array.getElem?_toList, hcs, List.getElem?_append_right (by omega), show o + j - pre.length = j by omega]
    rw [List.getElem?_append_left (List.getElem?_eq_some_iff.1 hj).1]
    exact hj
theorem ret_cell_tmp {fn : Func} {p u : Tmp} {ty : TypeId} {R : Ending → World → Prop} {a : Act} (h : fn.results = #[.cell p ty, .tmp u]) {d : TypeDesc} (hu : P.underlying ty = some d) (hd : d.isRow = true)
    {g : Nat} (hp : a.tmps.getD p undef = .pointer (some ⟨g, 0, none⟩)) (h0 : a.defers = []) (hx : ∃ cs, Row w g ty cs ∧ (P.info? ty).map (·.size) = some cs.size ∧ R (.returned (.tuple #[.agg cs, a.tmps.getD u undef])) w) : bodyPost P fn R .ret a w := by
  obtain ⟨cs, hr, hi, hR⟩ := hx
  refine bodyPost_ret ?_ h0 hR
  have hl := run_loadVar_mid (P := P) w g 0 ty cs.toList d hr.range hu hd (by simpa using hi)
  have hp' : a.tmps[p]?.getD undef = .pointer (some ⟨g, 0, none⟩) := by simpa using hp
  simp [results, h, hp', asAddr, hl, Sem.run_bind, Result.andThen]
theorem ret_cell {fn : Func} {p : Tmp} {ty : TypeId} {R : Ending → World → Prop} {a : Act} (h : fn.results = #[.cell p ty]) {d : TypeDesc} (hu : P.underlying ty = some d) (hd : d.isRow = true)
    {g : Nat} (hp : a.tmps.getD p undef = .pointer (some ⟨g, 0, none⟩)) (h0 : a.defers = []) (hx : ∃ cs, Row w g ty cs ∧ (P.info? ty).map (·.size) = some cs.size ∧ R (.returned (.agg cs)) w) : bodyPost P fn R .ret a w := by
  obtain ⟨cs, hr, hi, hR⟩ := hx
  refine bodyPost_ret ?_ h0 hR
  have hl := run_loadVar_mid (P := P) w g 0 ty cs.toList d hr.range hu hd (by simpa using hi)
  have hp' : a.tmps[p]?.getD undef = .pointer (some ⟨g, 0, none⟩) := by simpa using hp
  simp [results, h, hp', asAddr, hl, Sem.run_bind, Result.andThen]
theorem alloc_setCell (w : World) (cs : Array Value) (t : TypeId) (i : Nat) (v : Value) : (w.alloc (.cells cs t)).setCell ⟨w.heap.size, i, none⟩ v = w.alloc (.cells (cs.setIfInBounds i v) t) := by
  unfold World.setCell World.alloc
  congr 1
  apply Array.ext_getElem?
  intro j
  simp only [Array.getElem?_modify]
  by_cases hj : w.heap.size = j
  · subst hj
    rw [if_pos rfl]
    simp
  · rw [if_neg hj]
    simp only [Array.getElem?_push]
    rw [if_neg (fun e => hj e.symm), if_neg (fun e => hj e.symm)]
theorem alloc_setCells (w : World) (t : TypeId) : ∀ (vs : List Value) (o : Nat) (cs : Array Value), ∃ ds : Array Value, (w.alloc (.cells cs t)).setCells w.heap.size o vs = w.alloc (.cells ds t)
  | [], _, cs => ⟨cs, rfl⟩
  | v :: vs, o, cs => by rw [World.setCells, alloc_setCell]; exact alloc_setCells w t vs (o + 1) _
theorem setCells_alloc (w : World) (t : TypeId) {cs ds : Array Value} (h : ds.size = cs.size) : (w.alloc (.cells cs t)).setCells w.heap.size 0 ds.toList = w.alloc (.cells ds t) := by
  obtain ⟨es, he⟩ := alloc_setCells w t ds.toList 0 cs
  have h1 := (Row.new w t cs).setAll h
  have h2 := Row.new w t es
  rw [he] at h1 ⊢
  have : some (Obj.cells ds t (0, 0)) = some (Obj.cells es t (0, 0)) := h1.symm.trans h2
  injection this with this
  injection this with this
  rw [this]
theorem wpList_storeN {ops : Array Oper} {rest : List Oper} {op : Oper} {a : Act} {Q : Exit → Act → World → Prop} {t' : TypeId} (ty : TypeId) {x y : Operand} (ho : op.op = .store ty x y) (hw : Region.wanted op (yielded ops a.tmps) = true)
    {g o : Nat} (hx : a.eval x = .pointer (some ⟨g, o, none⟩)) (h0 : o = 0) (hy : a.eval y = .agg ds) (hg : g = w.heap.size) (hi : (P.info? ty).map (·.size) = some ds.size) (hs : ds.size = cs.size) (h1 : ds.all (·.oneCell') = true)
    (h : wpList P ops Q rest (a.put op.dst undef) (w.alloc (.cells ds t'))) : wpList P ops Q (op :: rest) a (w.alloc (.cells cs t')) := by
  subst hg
  exact wpList_storeR ty ho hw hx h0 hy (Row.new w t' cs) hi hs h1 (by rw [setCells_alloc w t' hs]; exact h)
end
end Go.Proofs.YtnobencogihbnaaGreat
