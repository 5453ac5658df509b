/-
  Worlds known by a list of blocks: loads, stores, new blocks and calls, each by one law; the world is never spelled. No program in sight.
-/
import Derived.Test.YtcijplfamodjaaaPart
import Derived.Test.YtcijplfamodjaaaHeld
namespace Go.Proofs.Ytcijplfamodjaaa
open Go.ChangeShapes Go.WideShapes Go.ChangeAt Go.RowKit
set_option linter.unusedVariables false
set_option linter.unusedSimpArgs false

/-! ### cells, told by structure -/
def Len (A : List Value) (n : Nat) : Prop := A.length = n
def CellL (cs : List Value) (k : Nat) (v : Value) : Prop := cs[k]? = some v
def PartL (cs : List Value) (k : Nat) (A : List Value) : Prop := ∃ pre post, cs = pre ++ (A ++ post) ∧ pre.length = k
def SetL (cs : List Value) (k : Nat) (v : Value) (cs' : List Value) : Prop := k < cs.length ∧ cs.set k v = cs'
def SplL (cs : List Value) (k : Nat) (A : List Value) (cs' : List Value) : Prop := ∃ pre old post, cs = pre ++ (old ++ post) ∧ pre.length = k ∧ old.length = A.length ∧ cs' = pre ++ (A ++ post)
def OneL (A : List Value) : Prop := ∀ v ∈ A, v.oneCell' = true
section
variable {A B C l l' : List Value} {n m k : Nat} {v x : Value}
theorem Len.nil : Len [] 0 := rfl
theorem Len.cons (h : Len l n) : Len (x :: l) (n + 1) := by unfold Len at *; simp [h]
theorem Len.app (hA : Len A n) (hl : Len l (m - n)) (h : n ≤ m) : Len (A ++ l) m := by unfold Len at *; simp [hA, hl]; omega
theorem OneL.nil : OneL [] := fun _ h => by simp at h
theorem OneL.cons (h : x.oneCell' = true) (hl : OneL l) : OneL (x :: l) := fun v hv => by
  rcases List.mem_cons.1 hv with rfl | hv
  · exact h
  · exact hl v hv
theorem OneL.app (hA : OneL A) (hl : OneL l) : OneL (A ++ l) := fun v hv => by
  rcases List.mem_append.1 hv with hv | hv
  · exact hA v hv
  · exact hl v hv
theorem CellL.here : CellL (v :: l) 0 v := rfl
theorem CellL.cons (h : CellL l k v) : CellL (x :: l) (k + 1) v := by unfold CellL at *; simpa using h
theorem CellL.into (hA : Len A n) (hk : k < n) (h : CellL A k v) : CellL (A ++ l) k v := by
  unfold CellL Len at *; rw [List.getElem?_append_left (by omega)]; exact h
theorem CellL.skip (hA : Len A n) (hk : n ≤ k) (h : CellL l (k - n) v) : CellL (A ++ l) k v := by
  unfold CellL Len at *; rw [List.getElem?_append_right (by omega), hA]; exact h
theorem PartL.here : PartL (A ++ l) 0 A := ⟨[], l, rfl, rfl⟩
theorem PartL.whole : PartL A 0 A := ⟨[], [], by simp, rfl⟩
theorem PartL.cons (h : PartL l k A) : PartL (x :: l) (k + 1) A := by
  obtain ⟨pre, post, rfl, rfl⟩ := h
  exact ⟨x :: pre, post, rfl, rfl⟩
theorem PartL.into (hB : Len B n) (hk : k < n) (h : PartL B k A) : PartL (B ++ l) k A := by
  obtain ⟨pre, post, rfl, rfl⟩ := h
  exact ⟨pre, post ++ l, by simp, rfl⟩
theorem PartL.skip (hB : Len B n) (hk : n ≤ k) (h : PartL l (k - n) A) : PartL (B ++ l) k A := by
  obtain ⟨pre, post, rfl, hp⟩ := h
  exact ⟨B ++ pre, post, by simp, by unfold Len at hB; simp [hB]; omega⟩
theorem SetL.here : SetL (x :: l) 0 v (v :: l) := ⟨by simp, rfl⟩
theorem SetL.cons (h : SetL l k v l') : SetL (x :: l) (k + 1) v (x :: l') := by
  obtain ⟨h1, rfl⟩ := h
  exact ⟨by simpa using h1, rfl⟩
theorem SetL.into (hA : Len A n) (hk : k < n) (h : SetL A k v B) : SetL (A ++ l) k v (B ++ l) := by
  obtain ⟨h1, rfl⟩ := h
  exact ⟨by simp; omega, by rw [List.set_append_left _ _ h1]⟩
theorem SetL.skip (hA : Len A n) (hk : n ≤ k) (h : SetL l (k - n) v l') : SetL (A ++ l) k v (A ++ l') := by
  obtain ⟨h1, rfl⟩ := h
  unfold Len at hA
  exact ⟨by simp; omega, by rw [List.set_append_right _ _ (by omega), hA]⟩
theorem SplL.whole (hA : Len A n) (hB : Len B n) : SplL A 0 B B := ⟨[], A, [], by simp, rfl, by unfold Len at *; omega, by simp⟩
theorem SplL.here (hA : Len A n) (hB : Len B n) : SplL (A ++ l) 0 B (B ++ l) := ⟨[], A, l, rfl, rfl, by unfold Len at *; omega, rfl⟩
theorem SplL.cons (h : SplL l k B l') : SplL (x :: l) (k + 1) B (x :: l') := by
  obtain ⟨pre, old, post, rfl, rfl, h1, rfl⟩ := h
  exact ⟨x :: pre, old, post, rfl, rfl, h1, rfl⟩
theorem SplL.into (hA : Len A n) (hk : k < n) (h : SplL A k B C) : SplL (A ++ l) k B (C ++ l) := by
  obtain ⟨pre, old, post, rfl, rfl, h1, rfl⟩ := h
  exact ⟨pre, old, post ++ l, by simp, rfl, h1, by simp⟩
theorem SplL.skip (hA : Len A n) (hk : n ≤ k) (h : SplL l (k - n) B l') : SplL (A ++ l) k B (A ++ l') := by
  obtain ⟨pre, old, post, rfl, hp, h1, rfl⟩ := h
  unfold Len at hA
  exact ⟨A ++ pre, old, post, by simp, by simp; omega, h1, by simp⟩
/-- the part of n cells at k -/
def PartN (cs : List Value) (k n : Nat) (A : List Value) : Prop := PartL cs k A ∧ Len A n
theorem PartN.whole (h : Len A n) : PartN A 0 n A := ⟨.whole, h⟩
theorem PartN.here (h : Len A n) : PartN (A ++ l) 0 n A := ⟨.here, h⟩
theorem PartN.cons (h : PartN l k n A) : PartN (x :: l) (k + 1) n A := ⟨h.1.cons, h.2⟩
theorem PartN.into (hB : Len B m) (hk : k < m) (h : PartN B k n A) : PartN (B ++ l) k n A := ⟨h.1.into hB hk, h.2⟩
theorem PartN.skip (hB : Len B m) (hk : m ≤ k) (h : PartN l (k - m) n A) : PartN (B ++ l) k n A := ⟨h.1.skip hB hk, h.2⟩
def SplN (cs : List Value) (k n : Nat) (A : List Value) (cs' : List Value) : Prop := Len A n → SplL cs k A cs'
theorem SplN.whole (h : Len A n) : SplN A 0 n B B := fun hB => .whole h hB
theorem SplN.here (h : Len A n) : SplN (A ++ l) 0 n B (B ++ l) := fun hB => .here h hB
theorem SplN.cons (h : SplN l k n B l') : SplN (x :: l) (k + 1) n B (x :: l') := fun hB => (h hB).cons
theorem SplN.into (hA : Len A m) (hk : k < m) (h : SplN A k n B C) : SplN (A ++ l) k n B (C ++ l) := fun hB => (h hB).into hA hk
theorem SplN.skip (hA : Len A m) (hk : m ≤ k) (h : SplN l (k - m) n B l') : SplN (A ++ l) k n B (A ++ l') := fun hB => (h hB).skip hA hk
theorem Len.set {cs cs' : List Value} (h : SetL cs k v cs') (hl : Len cs n) : Len cs' n := by
  obtain ⟨_, rfl⟩ := h
  unfold Len at *; simpa using hl
end

/-! ### a world, by the blocks that are known -/
abbrev HB := List (Nat × TypeId × List Value)
def HpRows (W : World) : HB → Prop
  | [] => True
  | r :: H => Row W r.1 r.2.1 r.2.2.toArray ∧ (∀ s ∈ H, s.1 ≠ r.1) ∧ HpRows W H
structure Hp (B : Nat) (w0 W : World) (H : HB) : Prop where
  below : Below B w0 W
  base : B ≤ W.heap.size
  rows : HpRows W H
/-- the worlds that are so -/
def HW (B : Nat) (w0 : World) (H : HB) : Type := { W : World // Hp B w0 W H }
def HW.w {B : Nat} {w0 : World} {H : HB} (x : HW B w0 H) : World := x.1
theorem HW.hp {B : Nat} {w0 : World} {H : HB} (x : HW B w0 H) : Hp B w0 x.w H := x.2
inductive MemH : HB → Nat → TypeId → List Value → Prop
  | here {H g t cs} : MemH ((g, t, cs) :: H) g t cs
  | there {H r g t cs} (h : MemH H g t cs) : MemH (r :: H) g t cs
inductive UpdH : HB → Nat → TypeId → List Value → List Value → HB → Prop
  | here {H g t cs cs'} : UpdH ((g, t, cs) :: H) g t cs cs' ((g, t, cs') :: H)
  | there {H H' r g t cs cs'} (h : UpdH H g t cs cs' H') : UpdH (r :: H) g t cs cs' (r :: H')
inductive SubH : HB → HB → Prop
  | refl {H} : SubH H H
  | drop {H r H'} (h : SubH H H') : SubH (r :: H) H'
  | keep {H r H'} (h : SubH H H') : SubH (r :: H) (r :: H')
/-! ### literals of structs and arrays -/
def placeT (P : Program) (t : TypeId) (i : Nat) : Option (Nat × Nat) := match P.underlying t with
  | some (.array _ e) => (P.info? e).map fun ie => (i * ie.size, ie.size)
  | some (.struct fs) => (fs.toList[i]?).bind fun f => (P.info? f.type).map fun x => (f.offset, x.size)
  | _ => none
def builtOk (P : Program) (t : TypeId) : Bool := (P.built t []).isSome
inductive BuildR (P : Program) (t : TypeId) : List Value → List (Nat × Value) → List Value → Prop
  | nil {cs : List Value} : BuildR P t cs [] cs
  | one {cs cs1 cs2 : List Value} {i k : Nat} {v : Value} {ps : List (Nat × Value)} (hf : placeT P t i = some (k, 1)) (h1 : v.oneCell' = true) (hs : SetL cs k v cs1) (h : BuildR P t cs1 ps cs2) : BuildR P t cs ((i, v) :: ps) cs2
  | row {cs cs1 cs2 : List Value} {i k n : Nat} {A : List Value} {ps : List (Nat × Value)} (hf : placeT P t i = some (k, n)) (hA : Len A n) (hs : SplN cs k n A cs1) (h : BuildR P t cs1 ps cs2) : BuildR P t cs ((i, .agg A.toArray) :: ps) cs2
section
variable {P : Program} {B : Nat} {w0 W W' : World} {H H' : HB} {g : Nat} {t : TypeId} {cs cs' : List Value}
theorem UpdH.mem (h : UpdH H g t cs cs' H') : MemH H g t cs := by
  induction h with
  | here => exact .here
  | there _ ih => exact .there ih
theorem HpRows.mem (h : HpRows W H) (hm : MemH H g t cs) : Row W g t cs.toArray := by
  induction hm with
  | here => exact h.1
  | there _ ih => exact ih h.2.2
theorem HpRows.lt (h : HpRows W H) : ∀ s ∈ H, s.1 < W.heap.size := by
  induction H with
  | nil => intro s hs; simp at hs
  | cons r H ih =>
    intro s hs
    rcases List.mem_cons.1 hs with rfl | hs
    · exact h.1.lt
    · exact ih h.2.2 s hs
theorem MemH.gs (h : MemH H g t cs) : g ∈ H.map (·.1) := by
  induction h with
  | here => simp
  | there _ ih => exact List.mem_cons_of_mem _ ih
theorem UpdH.gs (h : UpdH H g t cs cs' H') : H'.map (·.1) = H.map (·.1) := by
  induction h with
  | here => rfl
  | there _ ih => simp [ih]
theorem HpRows.upd (h : HpRows W H) (hu : UpdH H g t cs cs' H') (hr : Row W' g t cs'.toArray) (hg : W.grownBy W' (some g)) : HpRows W' H' := by
  have far : ∀ {H : HB}, HpRows W H → (∀ s ∈ H, s.1 ≠ g) → HpRows W' H := by
    intro H h hs
    induction H with
    | nil => trivial
    | cons r H ih =>
      exact ⟨(hg.block r.1 h.1.lt (fun e => hs r (by simp) (by cases e; rfl))).trans h.1, h.2.1, ih h.2.2 (fun s k => hs s (by simp [k]))⟩
  induction hu with
  | here => exact ⟨hr, h.2.1, far h.2.2 h.2.1⟩
  | @there H0 H1 r g t cs cs' hu ih =>
    have hm : g ∈ H0.map (·.1) := hu.mem.gs
    obtain ⟨s, hs, hsg⟩ := List.mem_map.1 hm
    have hne : r.1 ≠ g := fun e => h.2.1 s hs (by rw [e]; exact hsg)
    refine ⟨(hg.block r.1 h.1.lt (fun e => hne (by cases e; rfl))).trans h.1, fun s hs => ?_, ih h.2.2 hr hg far⟩
    have h1 : s.1 ∈ H1.map (·.1) := List.mem_map_of_mem hs
    rw [hu.gs] at h1
    obtain ⟨s', hs', he⟩ := List.mem_map.1 h1
    rw [← he]
    exact h.2.1 s' hs'
theorem HpRows.keep (h : HpRows W H) (hb : Below W.heap.size W W') : HpRows W' H := by
  induction H with
  | nil => trivial
  | cons r H ih => exact ⟨h.1.below hb h.1.lt, h.2.1, ih h.2.2⟩
theorem Hp.refl (w : World) : Hp w.heap.size w w [] := ⟨Below.refl _ _, Nat.le_refl _, trivial⟩
theorem Hp.mem (h : Hp B w0 W H) (hm : MemH H g t cs) : Row W g t cs.toArray := h.rows.mem hm
theorem Hp.upd (h : Hp B w0 W H) (hu : UpdH H g t cs cs' H') (hB : B ≤ g) (hr : Row W' g t cs'.toArray) (hg : W.grownBy W' (some g)) : Hp B w0 W' H' :=
  ⟨below_gb h.below hg hB h.base, Nat.le_trans h.base hg.size, h.rows.upd hu hr hg⟩
theorem Hp.keep (h : Hp B w0 W H) (hb : Below W.heap.size W W') : Hp B w0 W' H :=
  ⟨h.below.trans (hb.mono h.base), Nat.le_trans h.base hb.size, h.rows.keep hb⟩
theorem Hp.drew (h : Hp B w0 W H) : Hp B w0 W.drew H := h.keep (Below.refl _ _).drew
theorem Hp.new (h : Hp B w0 W H) (hb : Below W.heap.size W W') (hg : W.heap.size ≤ g) (hr : Row W' g t cs.toArray) : Hp B w0 W' ((g, t, cs) :: H) :=
  ⟨(h.keep hb).below, (h.keep hb).base, hr, fun s hs e => by have := h.rows.lt s hs; omega, h.rows.keep hb⟩
theorem Hp.alloc (h : Hp B w0 W H) (t : TypeId) (cs : List Value) : Hp B w0 (W.alloc (.cells cs.toArray t)) ((W.heap.size, t, cs) :: H) :=
  h.new ((Below.refl _ _).alloc (Nat.le_refl _) _) (Nat.le_refl _) (Row.new W t cs.toArray)
theorem SubH.mem (hs : SubH H H') : ∀ s ∈ H', s ∈ H := by
  induction hs with
  | refl => exact fun _ h => h
  | drop _ ih => exact fun s h => List.mem_cons_of_mem _ (ih s h)
  | keep _ ih =>
    intro s hm
    rcases List.mem_cons.1 hm with rfl | hm
    · exact List.mem_cons_self
    · exact List.mem_cons_of_mem _ (ih s hm)
theorem HpRows.sub (hs : SubH H H') : HpRows W H → HpRows W H' := by
  induction hs with
  | refl => exact fun h => h
  | drop _ ih => exact fun h => ih h.2.2
  | keep hs ih => exact fun h => ⟨h.1, fun s hm => h.2.1 s (hs.mem s hm), ih h.2.2⟩
theorem Hp.sub (h : Hp B w0 W H) (hs : SubH H H') : Hp B w0 W H' := ⟨h.below, h.base, h.rows.sub hs⟩
theorem Hp.old (h : Hp B w0 W H) (hr : Row w0 g t cs.toArray) (hg : g < B) (hn : ∀ s ∈ H, s.1 ≠ g) : Hp B w0 W ((g, t, cs) :: H) := ⟨h.below, h.base, hr.below h.below hg, hn, h.rows⟩
theorem Hp.cell (h : Hp B w0 W H) {b o : Nat} (hb : b < B) : W.cell? ⟨b, o, none⟩ = w0.cell? ⟨b, o, none⟩ := h.below.cell (p := ⟨b, o, none⟩) hb

/-! ### the kinds of types, and the zeros of one -/
def sizeT (P : Program) (ty : TypeId) : Option Nat := (P.info? ty).map (·.size)
def rowT (P : Program) (ty : TypeId) : Option Bool := (P.underlying ty).map TypeDesc.isRow
def zeroL (P : Program) (ty : TypeId) : List Value := match (P.info? ty).bind (·.zero) with | some z => z.cells.toList | none => []
def zeroOk (P : Program) (ty : TypeId) : Bool := ((P.info? ty).bind (·.zero)).isSome
theorem rowT_true {ty : TypeId} (h : rowT P ty = some true) : ∃ d, P.underlying ty = some d ∧ d.isRow = true := by
  unfold rowT at h
  cases hu : P.underlying ty with
  | none => rw [hu] at h; simp at h
  | some d => rw [hu] at h; exact ⟨d, rfl, by simpa using h⟩
theorem run_load1 {ty : TypeId} (hT : rowT P ty = some false) {a : Addr} {v : Value} (hc : W.cell? a = some v) : (Instr.loadAt ty (.pointer (some a))).run P W = .ok v W := by
  have hagg : (isAgg ty).run P W = .ok false W := by
    unfold rowT at hT
    cases hu : P.underlying ty with
    | none => rw [hu] at hT; simp at hT
    | some d =>
      rw [hu] at hT
      unfold isAgg
      rw [Sem.run_bind, run_underlying hu W]
      cases d <;> simp_all
  simp [Instr.loadAt, Instr.sureAddr, loadVar, Sem.run_bind, hagg, hc]
theorem run_store1 {ty : TypeId} (hi : sizeT P ty = some 1) {g o : Nat} {v : Value} (hv : v.oneCell' = true) (hc : (W.cell? ⟨g, o, none⟩).isSome = true) (hf : W.frozen? ⟨g, o, none⟩ = false) :
    (Instr.storeAt ty (.pointer (some ⟨g, o, none⟩)) v).run P W = .ok () (W.setCell ⟨g, o, none⟩ v) := by
  have hcells : v.cells = #[v] := by cases v <;> simp_all [Value.cells, Value.oneCell']
  have h2 := run_storeCells_cells (P := P) g o [v] 0 W (fun j hj => by (obtain rfl : j = 0 := by simpa using hj); simpa using hc) (fun j hj => by (obtain rfl : j = 0 := by simpa using hj); simpa using hf) (fun u hu => by (obtain rfl : u = v := by simpa using hu); exact hv)
  unfold sizeT at hi
  cases hq : P.info? ty with
  | none => simp [hq] at hi
  | some i =>
    have hs : i.size = 1 := by simpa [hq] using hi
    simp only [Nat.add_zero] at h2
    simp [Instr.storeAt, Instr.sureAddr, storeVar, sizeOf, typeInfo, hq, hcells, hs, h2, Sem.run_bind, World.setCells]
theorem run_alloc0 {ty : TypeId} (hz : zeroOk P ty = true) (old : Value) : (Instr.alloc ty true old).run P W = .ok (.pointer (some ⟨W.heap.size, 0, none⟩)) (W.alloc (.cells (zeroL P ty).toArray ty)) := by
  unfold zeroOk at hz
  unfold zeroL
  cases hq : P.info? ty with
  | none => simp [hq] at hz
  | some i =>
    cases hz' : i.zero with
    | none => simp [hq, hz'] at hz
    | some z => simp [Instr.alloc, zeroValue, typeInfo, hq, hz', newVar, newRow, Sem.run_bind]
def zoneOk (P : Program) (ty : TypeId) : Bool := (zeroL P ty).all (·.oneCell')
theorem OneL.z {ty : TypeId} (h : zoneOk P ty = true) : OneL (zeroL P ty) := List.all_eq_true.1 h
def zlenOk (P : Program) (ty : TypeId) : Bool := sizeT P ty == some (zeroL P ty).length
theorem Len.z {ty : TypeId} {n : Nat} (h : zlenOk P ty = true) (hs : sizeT P ty = some n) : Len (zeroL P ty) n := by
  unfold zlenOk at h; rw [hs] at h; unfold Len; have := of_decide_eq_true (p := some n = some (zeroL P ty).length) (by simpa using h); injection this with this; exact this.symm
theorem Len.zero {ty : TypeId} {n : Nat} (h : sizeT P ty = some n) (hz : zeroOk P ty = true) (hl : (zeroL P ty).length = n) : Len (zeroL P ty) n := hl
theorem fold_set (A : List Value) : ∀ (pre old post : List Value) (off : Nat) (n : Nat), old.length = A.length → off + n = pre.length →
    (A.zipIdx n).foldl (fun (cs : Array Value) (p : Value × Nat) => cs.setIfInBounds (off + p.2) p.1) (pre ++ (old ++ post)).toArray = (pre ++ (A ++ post)).toArray := by
  induction A with
  | nil => intro pre old post off n h _; obtain rfl : old = [] := List.eq_nil_of_length_eq_zero (by simpa using h); rfl
  | cons x A ih =>
    intro pre old post off n h hn
    match old, h with
    | y :: old, h =>
      rw [List.zipIdx_cons, List.foldl_cons]
      simp only [List.setIfInBounds_toArray]
      rw [hn, List.set_append_right _ _ (Nat.le_refl _), Nat.sub_self]
      have h2 := ih (pre ++ [x]) old post off (n + 1) (by simpa using h) (by simp; omega)
      simpa using h2
theorem fill_step {place : Nat → Option (Nat × Nat)} {i k : Nat} {v : Value} {A cs cs1 : List Value} {ps : List (Nat × Value)} (hf : place i = some (k, A.length)) (hv : v.cells = A.toArray) (hs : SplL cs k A cs1) :
    Instr.fill place cs.toArray ((i, v) :: ps) = Instr.fill place cs1.toArray ps := by
  obtain ⟨pre, old, post, rfl, rfl, h1, rfl⟩ := hs
  rw [Instr.fill, hf]
  simp only [hv, List.size_toArray, List.length_append]
  rw [if_neg (by simp; omega)]
  congr 1
  rw [← Array.foldl_toList]
  simp only [Array.toList_zipIdx]
  exact fold_set A pre old post pre.length 0 h1 rfl
theorem fill_R {place : Nat → Option (Nat × Nat)} {t : TypeId} (hp : ∀ i, place i = placeT P t i) {cs cs' : List Value} {ps : List (Nat × Value)} (h : BuildR P t cs ps cs') : Instr.fill place cs.toArray ps = some cs'.toArray := by
  induction h with
  | nil => rfl
  | @one cs cs1 cs2 i k v ps hf h1 hs _ ih =>
    rw [fill_step (A := [v]) (cs1 := cs1) (by rw [hp]; exact hf) (by cases v <;> simp_all [Value.cells, Value.oneCell']) ?_]
    · exact ih
    · obtain ⟨h2, rfl⟩ := hs
      refine ⟨cs.take k, [cs[k]], cs.drop (k + 1), ?_, ?_, rfl, ?_⟩
      · rw [List.singleton_append, ← List.drop_eq_getElem_cons h2, List.take_append_drop]
      · rw [List.length_take]; omega
      · rw [List.set_eq_take_append_cons_drop, if_pos h2]; rfl
  | @row cs cs1 cs2 i k n A ps hf hA hs _ ih =>
    rw [fill_step (A := A) (cs1 := cs1) (by rw [hp, hf, hA]) rfl (hs hA)]
    exact ih
theorem run_buildR {t : TypeId} {ps : Array (Nat × Value)} (ho : builtOk P t = true) {cs : List Value} (h : BuildR P t (zeroL P t) ps.toList cs) : (Instr.build t ps).run P W = .ok (.agg cs.toArray) W := by
  refine run_build W t ps _ ?_
  unfold builtOk at ho
  unfold Program.built at ho ⊢
  unfold zeroL at h
  cases hit : P.info? t with
  | none => simp [hit] at ho
  | some it =>
    cases hu : P.underlying t with
    | none => simp [hit, hu] at ho
    | some d =>
      cases hz : it.zero with
      | none => cases d <;> simp [hit, hu, hz] at ho
      | some z =>
        simp only [hit, Option.bind_some, hz] at h
        cases d <;> try (simp [hit, hu] at ho; done)
        case array n e =>
          cases hie : P.info? e with
          | none => simp [hit, hu, hz, hie] at ho
          | some ie =>
            simp only [hz, hie]
            have := fill_R (place := fun i => some (i * ie.size, ie.size)) (fun i => by simp [placeT, hu, hie]) h
            simpa using this
        case struct fields =>
          cases hp : fields.toList.mapM (fun f => (P.info? f.type).map fun i => (f.offset, i.size)) with
          | none => simp [hit, hu, hz, hp] at ho
          | some places =>
            simp only [hz, hp]
            have hpl : ∀ i, places[i]? = placeT P t i := by
              intro i
              simp only [placeT, hu]
              generalize fields.toList = fs at hp
              clear ho hu hit h
              induction fs generalizing places i with
              | nil => simp at hp; subst hp; simp
              | cons f fs ih =>
                simp only [List.mapM_cons, Option.bind_eq_bind, Option.pure_def] at hp
                cases hi : P.info? f.type with
                | none => simp [hi] at hp
                | some x =>
                  cases hr : fs.mapM (fun f => (P.info? f.type).map fun i => (f.offset, i.size)) with
                  | none => simp [hi, hr] at hp
                  | some rest =>
                    simp [hi, hr] at hp
                    subst hp
                    cases i with
                    | zero => simp [hi]
                    | succ i => simpa using ih rest i hr
            have := fill_R (place := fun i => places.toArray[i]?) (fun i => by rw [List.getElem?_toArray]; exact hpl i) h
            simpa using this
theorem oneL_arr (h : OneL cs) : cs.toArray.all (·.oneCell') = true := oneL _ (List.all_eq_true.2 h)
theorem MemH.range (h : Hp B w0 W H) (hm : MemH H g t cs) {o : Nat} {A : List Value} (hp : PartL cs o A) : W.rangeAt g o A := fun j v hv => by
  obtain ⟨pre, post, h1, h2⟩ := hp
  rw [(h.mem hm).cell, List.getElem?_toArray, h1, List.getElem?_append_right (by omega), show o + j - pre.length = j by omega]
  rw [List.getElem?_append_left (List.getElem?_eq_some_iff.1 hv).1]
  exact hv

/-! ### at one operation of a list -/
variable {ops : Array Oper} {rest : List Oper} {op : Oper} {a : Act} {Q : Exit → Act → World → Prop} {ty : TypeId} {x y : Operand} {o : Nat} {v : Value} {A : List Value}
theorem wpList_hLoad1 (ho : op.op = .load ty x) (hw : Region.wanted op (yielded ops a.tmps) = true) (hx : a.eval x = .pointer (some ⟨g, o, none⟩)) (hH : Hp B w0 W H)
    (h : ∃ t cs v, MemH H g t cs ∧ rowT P ty = some false ∧ CellL cs o v ∧ wpList P ops Q rest (a.put op.dst v) W) : wpList P ops Q (op :: rest) a W := by
  obtain ⟨t, cs, v, hm, hT, hc, h⟩ := h
  unfold wpList
  rw [if_pos hw]
  refine Or.inl ?_
  unfold Oper.wp execOp
  have hl : (Instr.loadAt ty (.pointer (some ⟨g, o, none⟩))).run P W = .ok v W := run_load1 hT (by rw [(hH.mem hm).cell, List.getElem?_toArray]; exact hc)
  simp only [ho, hx, Sem.run_bind, hl, Result.andThen_ok, Sem.run_pure]
  exact h
theorem wpList_hLoadR (ho : op.op = .load ty x) (hw : Region.wanted op (yielded ops a.tmps) = true) (hx : a.eval x = .pointer (some ⟨g, o, none⟩)) (hH : Hp B w0 W H)
    (h : ∃ t cs n A, MemH H g t cs ∧ rowT P ty = some true ∧ sizeT P ty = some n ∧ PartN cs o n A ∧ wpList P ops Q rest (a.put op.dst (.agg A.toArray)) W) : wpList P ops Q (op :: rest) a W := by
  obtain ⟨t, cs, n, A, hm, hT, hi, hp, h⟩ := h
  unfold wpList
  rw [if_pos hw]
  obtain ⟨d, hu, hd⟩ := rowT_true hT
  exact Or.inl (wp_load_mid ty x ho g o hx A d (MemH.range hH hm hp.1) hu hd (by unfold sizeT at hi; rw [hi, hp.2]) h)
theorem wpList_hStore1 (ho : op.op = .store ty x y) (hw : Region.wanted op (yielded ops a.tmps) = true) (hx : a.eval x = .pointer (some ⟨g, o, none⟩)) (hy : a.eval y = v) (h1 : v.oneCell' = true) (hH : Hp B w0 W H)
    (h : ∃ t cs cs' H', B ≤ g ∧ UpdH H g t cs cs' H' ∧ sizeT P ty = some 1 ∧ SetL cs o v cs' ∧ ∀ W', Hp B w0 W' H' → wpList P ops Q rest (a.put op.dst undef) W') : wpList P ops Q (op :: rest) a W := by
  obtain ⟨t, cs, cs', H', hB, hm, hi, hs, h⟩ := h
  unfold wpList
  rw [if_pos hw]
  refine Or.inl ?_
  have hr := hH.mem hm.mem
  obtain ⟨hs1, hs2⟩ := hs
  have hl := run_store1 (P := P) (W := W) hi (g := g) (o := o) h1 (by rw [hr.cell, List.getElem?_toArray, List.getElem?_eq_getElem hs1]; rfl) (hr.frozen o)
  unfold Oper.wp execOp
  simp only [ho, hx, hy, Sem.run_bind, hl, Result.andThen_ok, Sem.run_pure]
  refine h _ (hH.upd hm hB ?_ (gb_set (World.grownBy.refl W _) o v))
  have := hr.set o v
  rwa [List.setIfInBounds_toArray, hs2] at this
theorem gb_setCells {a : World} {g : Nat} : ∀ {w : World} (h : a.grownBy w (some g)) (vs : List Value) (o : Nat), a.grownBy (w.setCells g o vs) (some g)
  | _, h, [], _ => h
  | w, h, v :: vs, o => by rw [World.setCells]; exact gb_setCells (gb_set h o v) vs (o + 1)
theorem wpList_hStoreR (ho : op.op = .store ty x y) (hw : Region.wanted op (yielded ops a.tmps) = true) (hx : a.eval x = .pointer (some ⟨g, o, none⟩)) (hy : a.eval y = .agg A.toArray) (hH : Hp B w0 W H)
    (h : ∃ t cs cs' H' n, B ≤ g ∧ UpdH H g t cs cs' H' ∧ sizeT P ty = some n ∧ Len A n ∧ OneL A ∧ SplN cs o n A cs' ∧ ∀ W', Hp B w0 W' H' → wpList P ops Q rest (a.put op.dst undef) W') : wpList P ops Q (op :: rest) a W := by
  obtain ⟨t, cs, cs', H', n, hB, hm, hi, hA, h1, hs, h⟩ := h
  unfold wpList
  rw [if_pos hw]
  have hr := hH.mem hm.mem
  obtain ⟨pre, old, post, e1, e2, e3, e4⟩ := hs hA
  have hl : cs.length = pre.length + (old.length + post.length) := by rw [e1]; simp
  refine Or.inl (wp_store_mid ty x y ho g o A.toArray hx hy (fun j hj => ?_) (by unfold sizeT at hi; rw [hi, List.size_toArray, hA]) (oneL_arr h1) (h _ (hH.upd hm hB ?_ (gb_setCells (World.grownBy.refl W _) _ _))))
  · have hj' : j < A.length := by simpa using hj
    rw [hr.cell, hr.frozen]
    exact ⟨by rw [List.getElem?_toArray, List.getElem?_eq_getElem (by omega)]; rfl, rfl⟩
  · have h2 := hr.setAt (o := o) (vs := A) (by rw [List.size_toArray]; omega)
    have h3 : splice cs.toArray o A = cs'.toArray := by
      unfold splice
      congr 1
      show cs.take o ++ (A ++ cs.drop (o + A.length)) = cs'
      subst e2
      rw [e1, e4, ← e3]
      simp
    rw [h3] at h2
    exact h2
theorem wpList_hAlloc (ho : op.op = .alloc ty) (hw : Region.wanted op (yielded ops a.tmps) = true) (hH : Hp B w0 W H) (hz : zeroOk P ty = true)
    (h : ∀ g W', B ≤ g → Hp B w0 W' ((g, ty, zeroL P ty) :: H) → wpList P ops Q rest (a.put op.dst (.pointer (some ⟨g, 0, none⟩))) W') : wpList P ops Q (op :: rest) a W := by
  unfold wpList
  rw [if_pos hw]
  refine Or.inl ?_
  unfold Oper.wp execOp
  simp only [ho, Sem.run_bind, run_alloc0 (W := W) hz, Result.andThen_ok, Sem.run_pure]
  exact h _ _ hH.base (hH.alloc ty _)
theorem wpList_hBuild {parts : Array (Nat × Operand)} {pv : List (Nat × Value)} (ho : op.op = .build ty parts) (hw : Region.wanted op (yielded ops a.tmps) = true) (hl : (parts.toList.map fun p => (p.1, a.eval p.2)) = pv) (hb : builtOk P ty = true)
    (h : ∃ Z cs, zeroL P ty = Z ∧ BuildR P ty Z pv cs ∧ wpList P ops Q rest (a.put op.dst (.agg cs.toArray)) W) : wpList P ops Q (op :: rest) a W := by
  obtain ⟨Z, cs, hz, hR, hk⟩ := h
  exact wpList_buildF (fun w => run_buildR (ps := pv.toArray) hb (by rw [hz]; exact hR)) ho hw hl hk
theorem quiet_hBuild {C : World → Prop} {K : Act → Prop} {parts : Array (Nat × Operand)} {pv : List (Nat × Value)} (ho : op.op = .build ty parts) (hl : (parts.toList.map fun p => (p.1, a.eval p.2)) = pv) (hb : builtOk P ty = true)
    (h : ∃ Z cs, zeroL P ty = Z ∧ BuildR P ty Z pv cs ∧ K (a.put op.dst (.agg cs.toArray))) : op.quiet P a C K := by
  obtain ⟨Z, cs, hz, hR, hk⟩ := h
  exact quiet_build (fun w => run_buildR (ps := pv.toArray) hb (by rw [hz]; exact hR)) ho hl hk
theorem Gives.callH {f : FuncId} {args : Array Value} {R : Ending → World → Prop} (hH : Hp B w0 W H) (h : ∃ v, Gives P f args W v ∧ ∀ W', Hp B w0 W' H → R (.returned v) W') : Calls P f args W R := by
  obtain ⟨v, h, hR⟩ := h
  exact h.to.mono fun _ _ ⟨he, hb⟩ => by subst he; exact hR _ (hH.keep hb)
/-! ### regions that draw -/
theorem Gives.hq {f : FuncId} {args : Array Value} {y : HW B w0 H} (h : Gives P f args y.w v) : Calls P f args y.w fun e w'' => e = .returned v ∧ ∃ z : HW B w0 H, w'' = z.w :=
  h.to.mono fun _ _ ⟨he, hb⟩ => ⟨he, ⟨_, y.hp.keep hb⟩, rfl⟩
theorem wp_region_hq {id : Nat} {l : List Oper} (hH : Hp B w0 W H) (hm : P.follows .mixedOrders = true) (hB : Region.lexB .any l.toArray = true)
    (h : ∀ [Nonempty (HW B w0 H)], wpQuiet P l.toArray (fun W' => ∃ y : HW B w0 H, W' = y.w) (fun a' => ∀ W', Hp B w0 W' H → Q .normal a' W') l a) : (Code.region id l.toArray true).wp P Q a W := by
  haveI : Nonempty (HW B w0 H) := ⟨⟨W, hH⟩⟩
  have hk : ∀ (l' : List Oper) (a' : Act), wpQuiet P l.toArray (fun W' => ∃ y : HW B w0 H, W' = y.w) (fun a' => ∀ W', Hp B w0 W' H → Q .normal a' W') l' a' →
      wpQuiet P l.toArray (fun W' => ∃ y : HW B w0 H, W' = y.w) (fun a' => ∀ W', (∃ y : HW B w0 H, W' = y.w) → Q .normal a' W') l' a' := by
    intro l'
    induction l' with
    | nil => intro a' h W' hW'; obtain ⟨y, rfl⟩ := hW'; exact h _ y.hp
    | cons o l' ih =>
      intro a' h
      unfold wpQuiet at h ⊢
      split
      · rename_i hw
        rw [if_pos hw] at h
        obtain ⟨v, h1, h2⟩ := h
        exact ⟨v, h1, ih _ h2⟩
      · rename_i hw
        rw [if_neg hw] at h
        exact ih _ h
  exact wp_region_quiet (C := fun W' => ∃ y : HW B w0 H, W' = y.w) hm hB ⟨⟨_, hH.drew⟩, rfl⟩ (by simpa using hk _ _ h)
theorem quiet_hLoad1 {K : Act → Prop} (ho : op.op = .load ty x) (hx : a.eval x = .pointer (some ⟨g, o, none⟩)) (h : ∃ t cs v, MemH H g t cs ∧ rowT P ty = some false ∧ CellL cs o v ∧ K (a.put op.dst v)) : op.quiet P a (fun W' => ∃ y : HW B w0 H, W' = y.w) K := by
  obtain ⟨t, cs, v, hm, hT, hc, hk⟩ := h
  exact quiet_load ho hx (fun w hw => run_load1 hT (by obtain ⟨y, rfl⟩ := hw; rw [(y.hp.mem hm).cell, List.getElem?_toArray]; exact hc)) hk
theorem quiet_hLoadR {K : Act → Prop} (ho : op.op = .load ty x) (hx : a.eval x = .pointer (some ⟨g, o, none⟩)) (h : ∃ t cs n A, MemH H g t cs ∧ rowT P ty = some true ∧ sizeT P ty = some n ∧ PartN cs o n A ∧ K (a.put op.dst (.agg A.toArray))) : op.quiet P a (fun W' => ∃ y : HW B w0 H, W' = y.w) K := by
  obtain ⟨t, cs, n, A, hm, hT, hi, hp, hk⟩ := h
  obtain ⟨d, hu, hd⟩ := rowT_true hT
  exact quiet_load ho hx (fun w hw => by obtain ⟨y, rfl⟩ := hw; exact run_loadAt_mid (P := P) _ g o ty A d (MemH.range y.hp hm hp.1) hu hd (by unfold sizeT at hi; rw [hi, hp.2])) hk
/-- the walk of a region that draws: the operations 'listed' are done; what is loaded lies in the blocks H -/
def WMS (P : Program) (l : List Oper) (Q : Exit → Act → World → Prop) (B : Nat) (w0 : World) (H : HB) (fuel : Nat) (listed : Array Bool) (a : Act) (w : World) : Prop :=
  wpAnyH P .any l.toArray Q (fun W' => ∃ y : HW B w0 H, W' = y.w) fuel listed a w
variable {l : List Oper} {fuel : Nat} {listed : Array Bool} {H0 : HB}
theorem wp_region_hm {id : Nat} (hH : Hp B w0 W H) (_hS : SubH H H0) (hm : P.follows .mixedOrders = true) (h : ∀ W', Hp B w0 W' H → WMS P l Q B w0 H0 l.length (Array.replicate l.length false) a W') : (Code.region id l.toArray true).wp P Q a W :=
  wp_region_held (S := fun W' => ∃ y : HW B w0 H0, W' = y.w) hm (by have := h _ hH.drew; unfold WMS at this; simpa using this)
theorem hm_take {o : Oper} (i : Nat) (ho : l[i]? = some o) (hs : Region.noSelect l.toArray = true) (hf : (Region.free .any l.toArray listed i && (Region.ready .any l.toArray listed).contains i && valueKindH o) = true)
    (hQ : ∀ c a v w, Q (.panic c) (a.put o.dst v) w → Q (.panic c) a w) (hH : Hp B w0 W H) (hS : SubH H H0)
    (h : ∀ [Nonempty (HW B w0 H0)], wpQuiet P l.toArray (fun W' => ∃ y : HW B w0 H0, W' = y.w) (fun a' => WMS P l Q B w0 H0 fuel (listed.setIfInBounds i true) a' W) [o] a) : WMS P l Q B w0 H0 (fuel + 1) listed a W := by
  simp only [Bool.and_eq_true] at hf
  obtain ⟨⟨hf, hr⟩, hk⟩ := hf
  have ho' : l.toArray[i]? = some o := by simpa using ho
  haveI : Nonempty (HW B w0 H0) := ⟨⟨W, hH.sub hS⟩⟩
  have h := @h this
  have hSS : ∃ y : HW B w0 H0, W = y.w := ⟨⟨W, hH.sub hS⟩, rfl⟩
  unfold WMS
  unfold wpQuiet at h
  by_cases hw : Region.wanted o (yielded l.toArray a.tmps) = true
  · rw [if_pos hw] at h
    obtain ⟨v, h1, h2⟩ := h
    refine wpAnyH_take (v := v) ho' hs hf hr (fun c a w => hQ c a _ w) (Or.inl ⟨hw, fun w1 hw1 => ?_⟩) hSS h2
    have h3 := h1 w1 hw1
    unfold Oper.quietAt at h3
    cases hrun : (execOp a.eval o).run P w1 with
    | ok n w2 =>
      obtain ⟨u, rfl⟩ := exec_valueH hk hrun
      rw [hrun] at h3
      obtain ⟨e1, e2⟩ := h3
      rw [e1, e2]
    | halt x w2 => rw [hrun] at h3; exact h3.elim
  · rw [if_neg hw] at h
    exact wpAnyH_take (v := undef) ho' hs hf hr (fun c a w => hQ c a _ w) (Or.inr ⟨by simpa using hw, rfl⟩) hSS h
inductive PickR (l : List Oper) : List Nat → List Oper → Prop
  | nil : PickR l [] []
  | cons {i : Nat} {o : Oper} {ix : List Nat} {os : List Oper} (ho : l[i]? = some o) (h : PickR l ix os) : PickR l (i :: ix) (o :: os)
def takesOk (l : List Oper) : Array Bool → List Nat → Bool
  | _, [] => true
  | listed, i :: ix => (Region.free .any l.toArray listed i && (Region.ready .any l.toArray listed).contains i && (match l[i]? with | some o => valueKindH o | none => false)) && takesOk l (listed.setIfInBounds i true) ix
def setAllB (listed : Array Bool) : List Nat → Array Bool
  | [] => listed
  | i :: ix => setAllB (listed.setIfInBounds i true) ix
/-- several are taken at once -/
theorem hm_takes {ix : List Nat} {os : List Oper} (hp : PickR l ix os) (hs : Region.noSelect l.toArray = true) (hc : takesOk l listed ix = true)
    (hQ : ∀ c a v w (t : Tmp), Q (.panic c) (a.put (some t) v) w → Q (.panic c) a w) (hH : Hp B w0 W H) (hS : SubH H H0)
    (h : ∀ [Nonempty (HW B w0 H0)], wpQuiet P l.toArray (fun W' => ∃ y : HW B w0 H0, W' = y.w) (fun a' => WMS P l Q B w0 H0 fuel (setAllB listed ix) a' W) os a) : WMS P l Q B w0 H0 (fuel + ix.length) listed a W := by
  haveI : Nonempty (HW B w0 H0) := ⟨⟨W, hH.sub hS⟩⟩
  have h := @h this
  induction hp generalizing listed a with
  | nil => exact h
  | @cons i o ix os ho hp ih =>
    unfold takesOk at hc
    rw [Bool.and_eq_true, ho] at hc
    have e : fuel + (i :: ix).length = (fuel + ix.length) + 1 := by simp; omega
    rw [e]
    refine hm_take i ho hs hc.1 (fun c a v w hq => by
      cases hd : o.dst with
      | none => rw [hd] at hq; exact hq
      | some t => rw [hd] at hq; exact hQ c a v w t hq) hH hS ?_
    intro _
    unfold wpQuiet at h ⊢
    split
    · rename_i hw
      rw [if_pos hw] at h
      obtain ⟨v, h1, h2⟩ := h
      exact ⟨v, h1, ih hc.2 (fun {_} => h2) h2⟩
    · rename_i hw
      rw [if_neg hw] at h
      exact ih hc.2 (fun {_} => h) h
theorem hm_nil {C : World → Prop} {ops' : Array Oper} (h : WMS P l Q B w0 H0 fuel listed a W) : wpQuiet P ops' C (fun a' => WMS P l Q B w0 H0 fuel listed a' W) [] a := h
def hmQ (P : Program) (l : List Oper) (Q : Exit → Act → World → Prop) (B : Nat) (w0 : World) (H0 : HB) (fuel : Nat) (listed : Array Bool) : Exit → Act → World → Prop
  | .normal, a, w => (∃ y : HW B w0 H0, w = y.w) ∧ WMS P l Q B w0 H0 fuel listed a w
  | e, a, w => Q e a w
theorem hmQ_normal (hH : Hp B w0 W H) (hS : SubH H H0) (h2 : WMS P l Q B w0 H0 fuel listed a W) : hmQ P l Q B w0 H0 fuel listed .normal a W := ⟨⟨⟨W, hH.sub hS⟩, rfl⟩, h2⟩
theorem hm_op {o : Oper} (i : Nat) (ho : l[i]? = some o) (h : wpList P l.toArray (hmQ P l Q B w0 H0 fuel (listed.setIfInBounds i true)) [o] a W) :
    wpOp P l.toArray Q i (fun a' w' => (∃ y : HW B w0 H0, w' = y.w) ∧ wpAnyH P .any l.toArray Q (fun W' => ∃ y : HW B w0 H0, W' = y.w) fuel (listed.setIfInBounds i true) a' w') a W := by
  have ho' : l.toArray[i]? = some o := by simpa using ho
  unfold wpOp
  rw [ho']
  simp only
  have hout : LetsOut (hmQ P l Q B w0 H0 fuel (listed.setIfInBounds i true)) → LetsOut Q := fun ⟨a1, w1, h1⟩ => ⟨a1, w1, h1⟩
  unfold wpList at h
  by_cases hw : Region.wanted o (yielded l.toArray a.tmps) = true
  · rw [if_pos hw] at h ⊢
    refine h.imp (fun h => ?_) (fun h => ⟨h.1, hout h.2⟩)
    unfold Oper.wp at *
    generalize (execOp a.eval o).run P W = r at *
    cases r with
    | ok n w' =>
      cases n <;> simp only [Oper.upon] at h ⊢ <;>
        first
          | exact h
          | exact Calls.mono h (fun e w'' he => by cases e <;> first | exact he | exact hout he)
          | exact Rows.mono h (fun _ _ he => he)
    | halt x w' => cases x <;> simp only [Oper.upon] at h ⊢ <;> exact h
  · rw [if_neg hw] at h ⊢
    exact h
theorem hm_one {o : Oper} (i : Nat) (ho : l[i]? = some o) (hr : Region.ready .any l.toArray listed = [i]) (h : wpList P l.toArray (hmQ P l Q B w0 H0 fuel (listed.setIfInBounds i true)) [o] a W) : WMS P l Q B w0 H0 (fuel + 1) listed a W := by
  unfold WMS
  refine wpAnyH_all hr (by simp) (fun j hj => ?_)
  obtain rfl : j = i := by simpa using hj
  exact hm_op j ho h
theorem hm_two {o o2 : Oper} (i j : Nat) (ho : l[i]? = some o) (ho2 : l[j]? = some o2) (hr : Region.ready .any l.toArray listed = [i, j]) (h : wpList P l.toArray (hmQ P l Q B w0 H0 fuel (listed.setIfInBounds i true)) [o] a W)
    (h2 : wpList P l.toArray (hmQ P l Q B w0 H0 fuel (listed.setIfInBounds j true)) [o2] a W) : WMS P l Q B w0 H0 (fuel + 1) listed a W := by
  unfold WMS
  refine wpAnyH_all hr (by simp) (fun k hk => ?_)
  simp at hk
  rcases hk with rfl | rfl
  · exact hm_op k ho h
  · exact hm_op k ho2 h2
theorem hm_end (hr : Region.ready .any l.toArray listed = []) (h : Q .normal a W) : WMS P l Q B w0 H0 fuel listed a W := wpAnyH_done hr h _
/-! ### ends -/
theorem hret_cell {fn : Func} {p : Tmp} {R : Ending → World → Prop} (h : fn.results = #[.cell p ty]) (hT : rowT P ty = some true) (hp : a.tmps.getD p undef = .pointer (some ⟨g, 0, none⟩)) (h0 : a.defers = [])
    (hH : Hp B w0 W H) (hx : ∃ t cs n, MemH H g t cs ∧ sizeT P ty = some n ∧ Len cs n ∧ R (.returned (.agg cs.toArray)) W) : bodyPost P fn R .ret a W := by
  obtain ⟨t, cs, n, hm, hi, hl, hR⟩ := hx
  obtain ⟨d, hu, hd⟩ := rowT_true hT
  refine bodyPost_ret ?_ h0 hR
  have hl := run_loadVar_mid (P := P) W g 0 ty cs d (MemH.range hH hm PartL.whole) hu hd (by unfold sizeT at hi; rw [hi, hl])
  have hp' : a.tmps[p]?.getD undef = .pointer (some ⟨g, 0, none⟩) := by simpa using hp
  simp [results, h, hp', asAddr, hl, Sem.run_bind, Result.andThen]
theorem hret_cell_tmp {fn : Func} {p u : Tmp} {R : Ending → World → Prop} (h : fn.results = #[.cell p ty, .tmp u]) (hT : rowT P ty = some true) (hp : a.tmps.getD p undef = .pointer (some ⟨g, 0, none⟩)) (h0 : a.defers = [])
    (hH : Hp B w0 W H) (hx : ∃ t cs n, MemH H g t cs ∧ sizeT P ty = some n ∧ Len cs n ∧ R (.returned (.tuple #[.agg cs.toArray, a.tmps.getD u undef])) W) : bodyPost P fn R .ret a W := by
  obtain ⟨t, cs, n, hm, hi, hl, hR⟩ := hx
  obtain ⟨d, hu, hd⟩ := rowT_true hT
  refine bodyPost_ret ?_ h0 hR
  have hl := run_loadVar_mid (P := P) W g 0 ty cs d (MemH.range hH hm PartL.whole) hu hd (by unfold sizeT at hi; rw [hi, hl])
  have hp' : a.tmps[p]?.getD undef = .pointer (some ⟨g, 0, none⟩) := by simpa using hp
  simp [results, h, hp', asAddr, hl, Sem.run_bind, Result.andThen]
end
end Go.Proofs.Ytcijplfamodjaaa
