/-
  Slices in a world known by a list of blocks: literals, append, loads at any place. No program in sight.
-/
import Derived.Test.YtnobencogihbnaaGreatSg
import Derived.Great.BuildSlice
import Derived.Laws.AppendOwn
namespace Go.Proofs.YtnobencogihbnaaGreat
open Go.ChangeShapes Go.WideShapes Go.ChangeAt Go.RowKit
set_option linter.unusedVariables false
set_option linter.unusedSimpArgs false

/-! ### the table of slices: a type, and that of its elements -/
def findS (n : Nat) : List (Nat × Nat) → Option Nat
  | [] => none
  | (k, e) :: l => match Nat.beq k n with
    | true => some e
    | false => findS n l
def bytesOk (P : Program) (el : TypeId) : Bool := match P.info? el with
  | some i => Nat.ble i.bytes 100000
  | none => false
structure SlOk (P : Program) (t el : TypeId) : Prop where
  slice : P.underlying t = some (.slice el)
  bytes : bytesOk P el = true
def TabSOk (P : Program) (TS : List (Nat × Nat)) : Prop := ∀ p ∈ TS, SlOk P p.1 p.2
theorem TabSOk.find {P : Program} {TS : List (Nat × Nat)} (h : TabSOk P TS) {t el : TypeId} (hf : findS t TS = some el) : SlOk P t el := by
  induction TS with
  | nil => simp [findS] at hf
  | cons p TS ih =>
    unfold findS at hf
    cases hb : Nat.beq p.1 t with
    | true =>
      rw [hb] at hf
      simp at hf
      subst hf
      have := Nat.eq_of_beq_eq_true hb
      rw [← this]
      exact h p (by simp)
    | false =>
      rw [hb] at hf
      exact ih (fun q hq => h q (by simp [hq])) hf
/-! ### literals -/
def repS : Nat → List Seg → List Seg
  | 0, _ => []
  | n + 1, S => S ++ repS n S
def plcS : Nat → Nat → Nat → List (Nat × Nat)
  | 0, _, _ => []
  | n + 1, k, s => (k, s) :: plcS n (k + s) s
def slE (e : TyE) (len : Nat) : TyE := ⟨true, len * e.size, repS len e.zero, plcS len 0 e.size⟩
theorem fls_app : ∀ {S T : List Seg}, fls (S ++ T) = fls S ++ fls T
  | [], _ => rfl
  | .one v :: S, T => by simp [fls, fls_app (S := S)]
  | .many A n :: S, T => by simp [fls, fls_app (S := S)]
theorem okS_app : ∀ {S T : List Seg}, okS S → okS T → okS (S ++ T)
  | [], _, _, h => h
  | .one v :: S, T, h, k => ⟨h.1, okS_app h.2 k⟩
  | .many A n :: S, T, h, k => ⟨h.1, okS_app h.2 k⟩
theorem okS_rep {S : List Seg} (h : okS S) : ∀ n, okS (repS n S)
  | 0 => trivial
  | n + 1 => okS_app h (okS_rep h n)
theorem plcS_get {s : Nat} : ∀ {n k i : Nat} {p : Nat × Nat}, nthP (plcS n k s) i = some p → p = (k + i * s, s)
  | 0, _, _, _, h => by simp [plcS, nthP] at h
  | n + 1, k, 0, p, h => by simp [plcS, nthP] at h; simp [h]
  | n + 1, k, i + 1, p, h => by
    have := plcS_get (n := n) (k := k + s) (i := i) (p := p) (by simpa [plcS, nthP] using h)
    rw [this, Nat.succ_mul]
    congr 1
    omega
theorem rep_cells {z : Array Value} {S : List Seg} (hz : z.toList = fls S) (h0 : 0 < z.size) : ∀ n, (Array.range (n * z.size)).map (z[· % z.size]!) = (fls (repS n S)).toArray := by
  intro n
  apply Array.ext'
  rw [Array.toList_map, Array.toList_range]
  show _ = fls (repS n S)
  induction n with
  | zero => simp [repS, fls]
  | succ n ih =>
    rw [Nat.succ_mul, Nat.add_comm, List.range_add, List.map_append, repS, fls_app, ← ih, ← hz]
    congr 1
    · apply List.ext_getElem
      · simp
      · intro i h1 h2
        have hi : i < z.size := by simpa using h1
        simp [Nat.mod_eq_of_lt hi, hi]
    · rw [List.map_map]
      apply List.map_congr_left
      intro j _
      simp
section
variable {P : Program} {T : Tab} {TS : List (Nat × Nat)} {B : Nat} {w0 W : World} {H : HB} {g gx : Nat} {t tx el ty : TypeId} {b bx : Bool} {S S1 : List Seg} {e : TyE}
variable {ops : Array Oper} {rest : List Oper} {op : Oper} {a : Act} {Q : Exit → Act → World → Prop} {x y : Operand} {o : Nat} {v : Value} {A : List Value}
theorem hSl {len : Nat} {parts : Array (Nat × Operand)} {pv : List (Nat × Value)} (hT : TabOk P T) (ho : op.op = .buildSlice ty len parts) (hw : Region.wanted op (yielded ops a.tmps) = true) (hl : (parts.toList.map fun p => (p.1, a.eval p.2)) = pv)
    (hTS : TabSOk P TS) (hfs : findS ty TS = some el) (hty : findT el T = some e) (hsm : Nat.ble (len * e.size) 16777216 = true) (hpos : Nat.ble 1 (len * e.size) = true) (hlz : lenS e.zero = e.size) (hH : Hp B w0 W H)
    (h : ∃ S, BR (slE e len) (repS len e.zero) pv S ∧ ∀ W' g, Hp B w0 W' ((g, el, true, S) :: H) → wpList P ops Q rest (a.put op.dst (.slice (some ⟨g, 0, none⟩) len len)) W') : wpList P ops Q (op :: rest) a W := by
  obtain ⟨S, hR, hk⟩ := h
  have hu := (hTS.find hfs).slice
  have hE := hT.find hty
  have hsz := hE.size
  have hzo := hE.zok
  have hz0 := hE.zero
  have hoz := hE.okz
  unfold sizeT at hsz
  unfold zeroOk at hzo
  unfold zeroL at hz0
  have hsm := Nat.le_of_ble_eq_true hsm
  have hpos := Nat.le_of_ble_eq_true hpos
  cases hie : P.info? el with
  | none => simp [hie] at hsz
  | some ie =>
    simp only [hie, Option.map_some, Option.some.injEq, Option.bind_some] at hsz hzo hz0
    obtain ⟨z, hzz⟩ := Option.isSome_iff_exists.1 hzo
    simp only [hzz] at hz0
    have hp : (parts.map fun (i, x) => (i, a.eval x)) = pv.toArray := by apply Array.ext'; rw [Array.toList_map]; exact hl
    have hne : 0 < e.size := by
      cases hq : e.size with
      | zero => rw [hq] at hpos; omega
      | succ n => omega
    have hf := fill_R (place := fun i => some (i * ie.size, ie.size)) (e := slE e len) (fun i p hi => by
      have := plcS_get hi
      rw [this, hsz, Nat.zero_add]) hR (okS_rep hoz len)
    have hlen : z.cells.size = e.size := by
      have h1 := congrArg List.length hz0
      rw [okS_len hoz] at h1
      rw [Array.length_toList] at h1
      rw [h1]
      exact hlz
    have hcells : (Array.range (len * ie.size)).map (z.cells[· % z.cells.size]!) = (fls (repS len e.zero)).toArray := by
      rw [hsz, ← hlen]
      exact rep_cells hz0 (by omega) len
    have hrun := run_buildSlice W ty el len pv.toArray (fls S).toArray ie z hu hie hzz (by rw [hsz]; omega) (by rw [hsz]; omega) (by rw [hcells]; exact hf.1)
    unfold wpList
    rw [if_pos hw]
    refine Or.inl ?_
    unfold Oper.wp execOp
    simp only [ho, hp, Sem.run_bind, hrun, Result.andThen_ok, Sem.run_pure]
    exact hk _ _ (hH.alloc el hf.2)
/-! ### append -/
def putH : HB → Nat → (Nat × TypeId × Bool × List Seg) → HB
  | [], _, _ => []
  | r :: H, i, r' => match i with
    | 0 => r' :: H
    | i + 1 => r :: putH H i r'
theorem putH_mem {r' s : Nat × TypeId × Bool × List Seg} : ∀ {H : HB} {i : Nat}, s ∈ putH H i r' → s = r' ∨ s ∈ H
  | [], _, h => by simp [putH] at h
  | r :: H, 0, h => by
    rcases List.mem_cons.1 h with h | h
    · exact .inl h
    · exact .inr (List.mem_cons_of_mem _ h)
  | r :: H, i + 1, h => by
    rcases List.mem_cons.1 h with h | h
    · exact .inr (by rw [h]; exact List.mem_cons_self)
    · rcases putH_mem h with h | h
      · exact .inl h
      · exact .inr (List.mem_cons_of_mem _ h)
theorem HpRows.put {W' : World} {g' : Nat} {t' : TypeId} {b' : Bool} {S' : List Seg} (hr : Row W' g' t' (fls S').toArray) (hS : okS S') (hb : b' = true → B ≤ g') (hg : W.grownBy W' (some g)) : ∀ {H : HB} {i : Nat}, HpRows B W H → nthH H i = some (g, t, b, S) → (g' = g ∨ ∀ s ∈ H, s.1 ≠ g') → HpRows B W' (putH H i (g', t', b', S'))
  | [], _, _, h, _ => by simp [nthH] at h
  | r :: H, 0, hH, h, hn => by
    simp [nthH] at h
    subst h
    refine ⟨⟨hr, hS, hb⟩, fun s hs => ?_, HpRows.far hg hH.2.2 hH.2.1⟩
    rcases hn with rfl | hn
    · exact hH.2.1 s hs
    · exact hn s (List.mem_cons_of_mem _ hs)
  | r :: H, i + 1, hH, h, hn => by
    have h : nthH H i = some (g, t, b, S) := by simpa [nthH] using h
    have hne : r.1 ≠ g := fun e => hH.2.1 _ (nthH_mem h) e.symm
    refine ⟨⟨(hg.block r.1 hH.1.1.lt (fun e => hne (by cases e; rfl))).trans hH.1.1, hH.1.2⟩, fun s hs => ?_, HpRows.put hr hS hb hg hH.2.2 h (hn.imp id fun hn s hs => hn s (List.mem_cons_of_mem _ hs))⟩
    rcases putH_mem hs with rfl | hs
    · rcases hn with rfl | hn
      · exact fun e => hne e.symm
      · exact fun e => hn r List.mem_cons_self e.symm
    · exact hH.2.1 s hs
/-- so many elements of a size, of so many that there is room for: their cells, and those behind -/
structure Grow (size n c p q : Nat) : Prop where
  hp : p = n * size
  hq : p + q = c * size
  le : n ≤ c
  most : c ≤ maxLen
variable {n c m cx p q bytes k : Nat} {L J : List Value} {SX : List Seg} {s : Operand} {Q2 : Prop}
theorem elem_parts {el : TypeId} (hT : TabOk P T) (hty : findT el T = some e) (hlz : lenS e.zero = e.size) : ∃ ie z, P.info? el = some ie ∧ ie.zero = some z ∧ ie.size = e.size ∧ z.cells.toList = fls e.zero ∧ z.cells.size = e.size := by
  have hE := hT.find hty
  have hsz := hE.size
  have hzo := hE.zok
  have hz0 := hE.zero
  have hoz := hE.okz
  unfold sizeT at hsz
  unfold zeroOk at hzo
  unfold zeroL at hz0
  cases hie : P.info? el with
  | none => simp [hie] at hsz
  | some ie =>
    simp only [hie, Option.map_some, Option.some.injEq, Option.bind_some] at hsz hzo hz0
    obtain ⟨z, hzz⟩ := Option.isSome_iff_exists.1 hzo
    simp only [hzz] at hz0
    refine ⟨ie, z, rfl, hzz, hsz, hz0, ?_⟩
    have h1 := congrArg List.length hz0
    rw [okS_len hoz, hlz, Array.length_toList] at h1
    exact h1
theorem okA_fls {S : List Seg} (h : okS S) {n : Nat} (hl : lenS S = n) : OkA (fls S) n := ⟨by rw [okS_len h, hl], okS_one h⟩
theorem lenS_app : ∀ {S T : List Seg}, lenS (S ++ T) = lenS S + lenS T
  | [], T => by simp [lenS]
  | .one v :: S, T => by simp [lenS, lenS_app (S := S)]; omega
  | .many A n :: S, T => by simp [lenS, lenS_app (S := S)]; omega
theorem lenS_rep {S : List Seg} : ∀ n, lenS (repS n S) = n * lenS S
  | 0 => by simp [repS, lenS]
  | n + 1 => by rw [repS, lenS_app, lenS_rep n, Nat.succ_mul, Nat.add_comm]
theorem fls_two {p q : Nat} : fls [.many L p, .many J q] = L ++ J := by simp [fls]
theorem at_app {v : Value} {W' : World} (hgd : op.guard = none) (ho : op.op = .call { callee := .builtin .append, args := #[s, x], argTypes := #[ty, ty] }) {vs vx : Value} (hs : a.eval s = vs) (hx : a.eval x = vx)
    (hr : (Builtin.append_ #[ty, ty] op.type #[vs, vx]).run P W = .ok v W') (h : wpList P ops Q rest (a.put op.dst v) W') : wpList P ops Q (op :: rest) a W := by
  refine wpList_plain hgd fun K hK => ?_
  unfold Oper.wp execOp
  simp only [ho, resolve, invoke, builtin, Sem.run_bind, Sem.run_pure, Result.andThen_ok, List.map_toArray, List.map_cons, List.map_nil, hs, hx, hr]
  exact hK _ _ h
/-- append to what is owned -/
theorem hApp (i ix : Nat) (hT : TabOk P T) (hTS : TabSOk P TS) (hfs : findS ty TS = some el) (hty : findT el T = some e) (hlz : lenS e.zero = e.size) (hgd : op.guard = none)
    (ho : op.op = .call { callee := .builtin .append, args := #[s, x], argTypes := #[ty, ty] }) (hs : a.eval s = .slice (some ⟨g, 0, none⟩) n c) (hx : a.eval x = .slice (some ⟨gx, 0, none⟩) m cx) (hH : Hp B w0 W H)
    (hi : nthH H i = some (g, el, true, [.many L p, .many J q])) (hix : nthH H ix = some (gx, tx, bx, SX)) (hlx : lenS SX = m * e.size) (hsz : Nat.ble 1 e.size = true)
    (h : Grow e.size n c p q ∧ n + m ≤ 1000000 ∧ ∀ W' g' c' p' q' J', Grow e.size (n + m) c' p' q' → OkA (L ++ fls SX) p' → OkA J' q' → Hp B w0 W' (putH H i (g', el, true, [.many (L ++ fls SX) p', .many J' q'])) → wpList P ops Q rest (a.put op.dst (.slice (some ⟨g', 0, none⟩) (n + m) c')) W') : wpList P ops Q (op :: rest) a W := by
  obtain ⟨hG, hml, h⟩ := h
  have hsz := Nat.le_of_ble_eq_true hsz
  have hu := (hTS.find hfs).slice
  have hby := (hTS.find hfs).bytes
  obtain ⟨hr1, hS, hB⟩ := hH.rows.mem hi
  obtain ⟨hrx, hSX, _⟩ := hH.rows.mem hix
  obtain ⟨ie, z, hq, hz, e1, e2, e3⟩ := elem_parts hT hty hlz
  have hby : ie.bytes ≤ 100000 := by unfold bytesOk at hby; rw [hq] at hby; exact Nat.le_of_ble_eq_true hby
  have hLl : L.length = p := hS.1.1
  have hJl : J.length = q := hS.2.1.1
  have hxl := okS_len hSX
  rw [fls_two] at hr1
  have hnews : ∀ j u, (fls SX)[j]? = some u → W.cell? ((⟨gx, 0, none⟩ : Addr).add j) = some u := fun j u hu => by
    rw [show (⟨gx, 0, none⟩ : Addr).add j = ⟨gx, j, none⟩ by unfold Addr.add; split <;> simp_all, hrx.cell]
    simpa using hu
  have okL : OkA (L ++ fls SX) ((n + m) * e.size) := ⟨by rw [List.length_append, hLl, hxl, hlx, hG.hp, Nat.add_mul], fun v hv => by
    rcases List.mem_append.1 hv with hv | hv
    · exact hS.1.2 v hv
    · exact okS_one hSX v hv⟩
  by_cases hroom : n + m ≤ c
  · have hmul : (n + m) * e.size ≤ c * e.size := Nat.mul_le_mul_right _ hroom
    have hmm : n * e.size + m * e.size = (n + m) * e.size := (Nat.add_mul _ _ _).symm
    have hp := hG.hp
    have hqq := hG.hq
    have hr := run_append_room (P := P) W ty op.type el ie hu hq g n c (L ++ J).toArray hr1 ⟨gx, 0, none⟩ m cx (fls SX) (by rw [hxl, hlx, e1]) hnews (okS_one hSX) hroom (by simp [hLl, hJl, hxl, hlx, e1]; omega)
    refine at_app hgd ho hs hx hr ?_
    have hcell : (((L ++ J).toArray.toList.take (n * ie.size) ++ fls SX ++ (L ++ J).toArray.toList.drop (n * ie.size + (fls SX).length)).toArray : Array Value) = (fls [.many (L ++ fls SX) ((n + m) * e.size), .many (J.drop (m * e.size)) (c * e.size - (n + m) * e.size)]).toArray := by
      rw [fls_two, e1, hxl, hlx, ← hp]
      congr 1
      simp only [List.append_assoc]
      rw [List.take_append_of_le_length (by omega), List.take_of_length_le (by omega)]
      congr 2
      rw [List.drop_append, List.drop_of_length_le (by omega), List.nil_append, hLl, Nat.add_sub_cancel_left]
    have okJ : OkA (J.drop (m * e.size)) (c * e.size - (n + m) * e.size) := ⟨by rw [List.length_drop, hJl]; omega, fun v hv => hS.2.1.2 v (List.mem_of_mem_drop hv)⟩
    have hgr : W.grownBy (W.setRow g ((L ++ J).toArray.toList.take (n * ie.size) ++ fls SX ++ (L ++ J).toArray.toList.drop (n * ie.size + (fls SX).length)).toArray) (some g) :=
      ⟨rfl, rfl, rfl, by simp, fun k _ hk => setRow_other W g k _ (fun e => hk (by simp [e]))⟩
    refine h _ g c ((n + m) * e.size) (c * e.size - (n + m) * e.size) (J.drop (m * e.size)) ⟨rfl, by omega, hroom, hG.most⟩ okL okJ ?_
    refine ⟨below_gb hH.below hgr (hB rfl) hH.base, Nat.le_trans hH.base hgr.size, HpRows.put ?_ (show okS [.many (L ++ fls SX) ((n + m) * e.size), .many (J.drop (m * e.size)) (c * e.size - (n + m) * e.size)] from ⟨okL, okJ, trivial⟩) (fun _ => hB rfl) hgr hH.rows hi (.inl rfl)⟩
    rw [← hcell]
    exact setRow_heap W g _ _ el _ hr1
  · have hr := run_append_grow (P := P) W ty op.type el ie z hu hq hz ⟨g, 0, none⟩ n c L (by rw [hLl, e1, hG.hp]) (fun j u hu => by
      rw [show (⟨g, 0, none⟩ : Addr).add j = ⟨g, j, none⟩ by unfold Addr.add; split <;> simp_all, hr1.cell, List.getElem?_toArray, List.getElem?_append_left (List.getElem?_eq_some_iff.1 hu).1]
      exact hu) ⟨gx, 0, none⟩ m cx (fls SX) (by rw [hxl, hlx, e1]) hnews (by omega) (by omega) (growslice_fits (by omega) (Nat.le_trans (Nat.mul_le_mul hml hby) (by decide)))
    refine at_app hgd ho hs hx hr ?_
    have hge := grownCap_ge W (n + m) c el
    have hmost : grownCap W (n + m) c el ≤ maxLen := grownCap_le_maxLen W (n + m) c el (by simp only [maxLen]; omega)
    generalize grownCap W (n + m) c el = c' at *
    have hzc : Builtin.zeroCells z.cells (c' - (n + m)) = (fls (repS (c' - (n + m)) e.zero)).toArray := rep_cells e2 (by omega) _
    have hoz := okS_rep (hT.find hty).okz (c' - (n + m))
    have hlr : lenS (repS (c' - (n + m)) e.zero) = (c' - (n + m)) * e.size := by rw [lenS_rep, hlz]
    have hmul : (n + m) * e.size + (c' - (n + m)) * e.size = c' * e.size := by rw [← Nat.add_mul]; congr 1; omega
    have hcell : (L.toArray ++ (fls SX).toArray ++ Builtin.zeroCells z.cells (c' - (n + m)) : Array Value) = (fls [.many (L ++ fls SX) ((n + m) * e.size), .many (fls (repS (c' - (n + m)) e.zero)) ((c' - (n + m)) * e.size)]).toArray := by
      rw [hzc, fls_two]; simp
    rw [hcell]
    have okJ := okA_fls hoz hlr
    refine h _ W.heap.size c' ((n + m) * e.size) ((c' - (n + m)) * e.size) _ ⟨rfl, hmul, hge, hmost⟩ okL okJ ?_
    have hgr : W.grownBy (W.drew.alloc (.cells (fls [.many (L ++ fls SX) ((n + m) * e.size), .many (fls (repS (c' - (n + m)) e.zero)) ((c' - (n + m)) * e.size)]).toArray el)) (some g) := ⟨rfl, rfl, rfl, by simp, fun k hk _ => heap_alloc_old W.drew _ hk⟩
    refine ⟨below_gb hH.below hgr (hB rfl) hH.base, Nat.le_trans hH.base hgr.size, HpRows.put (Row.new W.drew el _) (show okS [.many (L ++ fls SX) ((n + m) * e.size), .many (fls (repS (c' - (n + m)) e.zero)) ((c' - (n + m)) * e.size)] from ⟨okL, okJ, trivial⟩) (fun _ => hH.base) hgr hH.rows hi (.inr fun s hs e => ?_)⟩
    have h1 := hH.rows.lt s hs
    have h2 : W.drew.heap.size = W.heap.size := rfl
    omega
/-- append to nothing -/
theorem hApp0 (ix : Nat) (hT : TabOk P T) (hTS : TabSOk P TS) (hfs : findS ty TS = some el) (hty : findT el T = some e) (hlz : lenS e.zero = e.size) (hgd : op.guard = none)
    (ho : op.op = .call { callee := .builtin .append, args := #[s, x], argTypes := #[ty, ty] }) (hs : a.eval s = .slice none 0 0) (hx : a.eval x = .slice (some ⟨gx, 0, none⟩) m cx) (hH : Hp B w0 W H)
    (hix : nthH H ix = some (gx, tx, bx, SX)) (hlx : lenS SX = m * e.size) (hsz : Nat.ble 1 e.size = true)
    (h : 0 < m ∧ m ≤ 1000000 ∧ ∀ W' g' c' p' q' J', Grow e.size m c' p' q' → OkA (fls SX) p' → OkA J' q' → Hp B w0 W' ((g', el, true, [.many (fls SX) p', .many J' q']) :: H) → wpList P ops Q rest (a.put op.dst (.slice (some ⟨g', 0, none⟩) m c')) W') : wpList P ops Q (op :: rest) a W := by
  obtain ⟨hm0, hml, h⟩ := h
  have hsz := Nat.le_of_ble_eq_true hsz
  have hu := (hTS.find hfs).slice
  have hby := (hTS.find hfs).bytes
  obtain ⟨hrx, hSX, _⟩ := hH.rows.mem hix
  obtain ⟨ie, z, hq, hz, e1, e2, e3⟩ := elem_parts hT hty hlz
  have hby : ie.bytes ≤ 100000 := by unfold bytesOk at hby; rw [hq] at hby; exact Nat.le_of_ble_eq_true hby
  have hxl := okS_len hSX
  have hnews : ∀ j u, (fls SX)[j]? = some u → W.cell? ((⟨gx, 0, none⟩ : Addr).add j) = some u := fun j u hu => by
    rw [show (⟨gx, 0, none⟩ : Addr).add j = ⟨gx, j, none⟩ by unfold Addr.add; split <;> simp_all, hrx.cell]
    simpa using hu
  have okL : OkA (fls SX) (m * e.size) := okA_fls hSX hlx
  have hr := run_append_nil (P := P) W ty op.type el ie z hu hq hz ⟨gx, 0, none⟩ m cx (fls SX) (by rw [hxl, hlx, e1]) hnews hm0 (by omega) (Nat.le_trans (Nat.mul_le_mul hml hby) (by decide))
  refine at_app hgd ho hs hx hr ?_
  have hge := grownCap_ge W m 0 el
  have hmost : grownCap W m 0 el ≤ maxLen := grownCap_le_maxLen W m 0 el (by simp only [maxLen]; omega)
  generalize grownCap W m 0 el = c' at *
  have hzc : Builtin.zeroCells z.cells (c' - m) = (fls (repS (c' - m) e.zero)).toArray := rep_cells e2 (by omega) _
  have hoz := okS_rep (hT.find hty).okz (c' - m)
  have hlr : lenS (repS (c' - m) e.zero) = (c' - m) * e.size := by rw [lenS_rep, hlz]
  have hmul : m * e.size + (c' - m) * e.size = c' * e.size := by rw [← Nat.add_mul]; congr 1; omega
  have hcell : ((fls SX).toArray ++ Builtin.zeroCells z.cells (c' - m) : Array Value) = (fls [.many (fls SX) (m * e.size), .many (fls (repS (c' - m) e.zero)) ((c' - m) * e.size)]).toArray := by
    rw [hzc, fls_two]; simp
  rw [hcell]
  have okJ := okA_fls hoz hlr
  exact h _ W.heap.size c' (m * e.size) ((c' - m) * e.size) _ ⟨rfl, hmul, hge, hmost⟩ okL okJ (hH.drew.alloc el ⟨okL, okJ, trivial⟩)
/-! ### loads at any place -/
def AtL (A : List Value) (o : Nat) (C : List Value) : Prop := ∃ pre post, A = pre ++ (C ++ post) ∧ pre.length = o
theorem run_rowAt {i : Nat} {el : TypeId} (hT : TabOk P T) (hH : Hp B w0 W H) (hi : nthH H i = some (g, t, b, .many A p :: S)) (hty : findT el T = some e) (hr : e.row = true) (hc : AtL A o (fls S1)) (hl : lenS S1 = e.size) (hS1 : okS S1) : (Instr.loadAt el (.pointer (some ⟨g, o, none⟩))).run P W = .ok (.agg (fls S1).toArray) W := by
  obtain ⟨pre, post, h1, h2⟩ := hc
  obtain ⟨d, hu, hd⟩ := rowT_true (by rw [(hT.find hty).row, hr])
  have hs := (hT.find hty).size
  unfold sizeT at hs
  exact run_loadAt_mid (P := P) W g o el (fls S1) d (range_of hH hi ⟨pre, post ++ fls S, by rw [fls, h1]; simp, h2⟩) hu hd (by rw [hs, okS_len hS1, hl])
theorem hLx (i : Nat) (hT : TabOk P T) (ho : op.op = .load ty x) (hw : Region.wanted op (yielded ops a.tmps) = true) (hx : a.eval x = .pointer (some ⟨g, o, none⟩)) (hH : Hp B w0 W H) (hi : nthH H i = some (g, t, b, .many A p :: S))
    (hty : findT ty T = some e) (hr : e.row = true) (h : ∃ k C, AtL A k (fls C) ∧ o = k ∧ lenS C = e.size ∧ okS C ∧ ∀ W', Hp B w0 W' H → wpList P ops Q rest (a.put op.dst (.agg (fls C).toArray)) W') : wpList P ops Q (op :: rest) a W := by
  obtain ⟨k, C, h1, rfl, h2, h3, h⟩ := h
  exact wpL_load ho hw hx (run_rowAt hT hH hi hty hr h1 h2 h3) (h W hH)
theorem hLx1 (i : Nat) (hT : TabOk P T) (ho : op.op = .load ty x) (hw : Region.wanted op (yielded ops a.tmps) = true) (hx : a.eval x = .pointer (some ⟨g, o, none⟩)) (hH : Hp B w0 W H) (hi : nthH H i = some (g, t, b, .many A p :: S))
    (hty : findT ty T = some e) (hr : e.row = false) (h : ∃ k v, CellA A k v ∧ o = k ∧ ∀ W', Hp B w0 W' H → wpList P ops Q rest (a.put op.dst v) W') : wpList P ops Q (op :: rest) a W := by
  obtain ⟨k, v, h1, rfl, h⟩ := h
  have h1 : A[o]? = some v := h1
  exact wpL_load ho hw hx (run_cell hT hH hi hty hr (by rw [fls, List.getElem?_append_left (List.getElem?_eq_some_iff.1 h1).1]; exact h1)) (h W hH)
theorem qLx {K : Act → Prop} (i : Nat) (hT : TabOk P T) (ho : op.op = .load ty x) (hx : a.eval x = .pointer (some ⟨g, o, none⟩)) (hi : nthH H i = some (g, t, b, .many A p :: S)) (hty : findT ty T = some e) (hr : e.row = true)
    (h : ∃ k C, AtL A k (fls C) ∧ o = k ∧ lenS C = e.size ∧ okS C ∧ K (a.put op.dst (.agg (fls C).toArray))) : op.quiet P a (fun W' => ∃ y : HW B w0 H, W' = y.w) K := by
  obtain ⟨k, C, h1, rfl, h2, h3, h⟩ := h
  exact quiet_load ho hx (fun w hw => by obtain ⟨y, rfl⟩ := hw; exact run_rowAt hT y.hp hi hty hr h1 h2 h3) h
theorem qLx1 {K : Act → Prop} (i : Nat) (hT : TabOk P T) (ho : op.op = .load ty x) (hx : a.eval x = .pointer (some ⟨g, o, none⟩)) (hi : nthH H i = some (g, t, b, .many A p :: S)) (hty : findT ty T = some e) (hr : e.row = false)
    (h : ∃ k v, CellA A k v ∧ o = k ∧ K (a.put op.dst v)) : op.quiet P a (fun W' => ∃ y : HW B w0 H, W' = y.w) K := by
  obtain ⟨k, v, h1, rfl, h⟩ := h
  have h1 : A[o]? = some v := h1
  exact quiet_load ho hx (fun w hw => by obtain ⟨y, rfl⟩ := hw; exact run_cell hT y.hp hi hty hr (by rw [fls, List.getElem?_append_left (List.getElem?_eq_some_iff.1 h1).1]; exact h1)) h
/-- a block of the caller's -/
theorem Hp.oldBelow (h : Hp B w0 W H) {w1 : World} (hr : Row w1 g t (fls S).toArray) (hb : Below B w1 W) (hg : g < B) (hS : okS S) (hn : ∀ s ∈ H, s.1 ≠ g) : Hp B w0 W ((g, t, false, S) :: H) :=
  ⟨h.below, h.base, ⟨hr.below hb hg, hS, fun h => by cases h⟩, hn, h.rows⟩
end
end Go.Proofs.YtnobencogihbnaaGreat
