/-
  Joined texts: Sl, Tabs, Old, Ao, Rg, In.
-/
import Derived.Test.YtdnehjhijmeihaaGreatQSg
import Derived.Great.BuildSlice
import Derived.Laws.AppendOwn
namespace Go.Proofs.YtdnehjhijmeihaaGreat
open Go.ChangeShapes Go.WideShapes Go.ChangeAt Go.RowKit
set_option linter.unusedVariables false
set_option linter.unusedSimpArgs false
def findS (n : Nat) : List (Nat × Nat) → Option Nat
  | [] => none
  | (k, e) :: l => match Nat.beq k n with
    | true => some e
    | false => findS n l
def bytesOk (P : Program) (el : TypeId) : Bool := match P.info? el with
  | some i => Nat.ble i.bytes 100000
  | none => false
structure SlOk (P : Program) (t el : TypeId) : Prop where
  slice : P.underlying t = some (.slice el)
  bytes : bytesOk P el = true
def TabSOk (P : Program) (TS : List (Nat × Nat)) : Prop := ∀ p ∈ TS, SlOk P p.1 p.2
theorem TabSOk.find {P : Program} {TS : List (Nat × Nat)} (h : TabSOk P TS) {t el : TypeId} (hf : findS t TS = some el) : SlOk P t el := by
  induction TS with
  | nil => simp [findS] at hf
  | cons p TS ih =>
    unfold findS at hf
    cases hb : Nat.beq p.1 t with
    | true =>
      rw [hb] at hf
      simp at hf
      subst hf
      have := Nat.eq_of_beq_eq_true hb
      rw [← this]
      exact h p (by simp)
    | false =>
      rw [hb] at hf
      exact ih (fun q hq => h q (by simp [hq])) hf
def repS : Nat → List Seg → List Seg
  | 0, _ => []
  | n + 1, S => S ++ repS n S
def plcS : Nat → Nat → Nat → List (Nat × Nat)
  | 0, _, _ => []
  | n + 1, k, s => (k, s) :: plcS n (k + s) s
def slE (e : TyE) (len : Nat) : TyE := ⟨true, len * e.size, repS len e.zero, plcS len 0 e.size⟩
theorem fls_app : ∀ {S T : List Seg}, fls (S ++ T) = fls S ++ fls T
  | [], _ => rfl
  | .one v :: S, T => by simp [fls, fls_app (S := S)]
  | .many A n :: S, T => by simp [fls, fls_app (S := S)]
theorem okS_app : ∀ {S T : List Seg}, okS S → okS T → okS (S ++ T)
  | [], _, _, h => h
  | .one v :: S, T, h, k => ⟨h.1, okS_app h.2 k⟩
  | .many A n :: S, T, h, k => ⟨h.1, okS_app h.2 k⟩
theorem okS_rep {S : List Seg} (h : okS S) : ∀ n, okS (repS n S)
  | 0 => trivial
  | n + 1 => okS_app h (okS_rep h n)
theorem plcS_get {s : Nat} : ∀ {n k i : Nat} {p : Nat × Nat}, nthP (plcS n k s) i = some p → p = (k + i * s, s)
  | 0, _, _, _, h => by simp [plcS, nthP] at h
  | n + 1, k, 0, p, h => by simp [plcS, nthP] at h; simp [h]
  | n + 1, k, i + 1, p, h => by
    have := plcS_get (n := n) (k := k + s) (i := i) (p := p) (by simpa [plcS, nthP] using h)
    rw [this, Nat.succ_mul]
    congr 1
    omega
theorem rep_cells {z : Array Value} {S : List Seg} (hz : z.toList = fls S) (h0 : 0 < z.size) : ∀ n, (Array.range (n * z.size)).map (z[· % z.size]!) = (fls (repS n S)).toArray := by
  intro n
  apply Array.ext'
  rw [Array.toList_map, Array.toList_range]
  show _ = fls (repS n S)
  induction n with
  | zero => simp [repS, fls]
  | succ n ih =>
    rw [Nat.succ_mul, Nat.add_comm, List.range_add, List.map_append, repS, fls_app, ← ih, ← hz]
    congr 1
    · apply List.ext_getElem
      · simp
      · intro i h1 h2
        have hi : i < z.size := by simpa using h1
        simp [Nat.mod_eq_of_lt hi, hi]
    · rw [List.map_map]
      apply List.map_congr_left
      intro j _
      simp
section
variable {P : Program} {T : Tab} {TS : List (Nat × Nat)} {B : Nat} {w0 W : World} {H : HB} {g gx : Nat} {t tx el ty : TypeId} {b bx : Bool} {S S1 : List Seg} {e : TyE}
variable {ops : Array Oper} {rest : List Oper} {op : Oper} {a : Act} {Q : Exit → Act → World → Prop} {x y : Operand} {o : Nat} {v : Value} {A : List Value}
theorem hSl {len : Nat} {parts : Array (Nat × Operand)} {pv : List (Nat × Value)} (hT : TabOk P T) (ho : op.op = .buildSlice ty len parts) (hw : Region.wanted op (yielded ops a.tmps) = true) (hl : (parts.toList.map fun p => (p.1, a.eval p.2)) = pv)
    (hTS : TabSOk P TS) (hfs : findS ty TS = some el) (hty : findT el T = some e) (hsm : Nat.ble (len * e.size) 16777216 = true) (hpos : Nat.ble 1 (len * e.size) = true) (hlz : lenS e.zero = e.size) (hH : Hp B w0 W H)
    (h : ∃ S, BR (slE e len) (repS len e.zero) pv S ∧ ∀ W' g, Hp B w0 W' ((g, el, true, S) :: H) → wpList P ops Q rest (a.put op.dst (.slice (some ⟨g, 0, none⟩) len len)) W') : wpList P ops Q (op :: rest) a W := by
  obtain ⟨S, hR, hk⟩ := h
  have hu := (hTS.find hfs).slice
  have hE := hT.find hty
  have hsz := hE.size
  have hzo := hE.zok
  have hz0 := hE.zero
  have hoz := hE.okz
  unfold sizeT at hsz
  unfold zeroOk at hzo
  unfold zeroL at hz0
  have hsm := Nat.le_of_ble_eq_true hsm
  have hpos := Nat.le_of_ble_eq_true hpos
  cases hie : P.info? el with
  | none => simp [hie] at hsz
  | some ie =>
    simp only [hie, Option.map_some, Option.some.injEq, Option.bind_some] at hsz hzo hz0
    obtain ⟨z, hzz⟩ := Option.isSome_iff_exists.1 hzo
    simp only [hzz] at hz0
    have hp : (parts.map fun (i, x) => (i, a.eval x)) = pv.toArray := by apply Array.ext'; rw [Array.toList_map]; exact hl
    have hne : 0 < e.size := by
      cases hq : e.size with
      | zero => rw [hq] at hpos; omega
      | succ n => omega
    have hf := fill_R (place := fun i => some (i * ie.size, ie.size)) (e := slE e len) (fun i p hi => by
      have := plcS_get hi
      rw [this, hsz, Nat.zero_add]) hR (okS_rep hoz len)
    have hlen : z.cells.size = e.size := by
      have h1 := congrArg List.length hz0
      rw [okS_len hoz] at h1
      rw [Array.length_toList] at h1
      rw [h1]
      exact hlz
    have hcells : (Array.range (len * ie.size)).map (z.cells[· % z.cells.size]!) = (fls (repS len e.zero)).toArray := by
      rw [hsz, ← hlen]
      exact rep_cells hz0 (by omega) len
    have hrun := run_buildSlice W ty el len pv.toArray (fls S).toArray ie z hu hie hzz (by rw [hsz]; omega) (by rw [hsz]; omega) (by rw [hcells]; exact hf.1)
    unfold wpList
    rw [if_pos hw]
    refine Or.inl ?_
    unfold Oper.wp execOp
    simp only [ho, hp, Sem.run_bind, hrun, Result.andThen_ok, Sem.run_pure]
    exact hk _ _ (hH.alloc el hf.2)
def putH : HB → Nat → (Nat × TypeId × Bool × List Seg) → HB
  | [], _, _ => []
  | r :: H, i, r' => match i with
    | 0 => r' :: H
    | i + 1 => r :: putH H i r'
theorem putH_mem {r' s : Nat × TypeId × Bool × List Seg} : ∀ {H : HB} {i : Nat}, s ∈ putH H i r' → s = r' ∨ s ∈ H
  | [], _, h => by simp [putH] at h
  | r :: H, 0, h => by
    rcases List.mem_cons.1 h with h | h
    · exact .inl h
    · exact .inr (List.mem_cons_of_mem _ h)
  | r :: H, i + 1, h => by
    rcases List.mem_cons.1 h with h | h
    · exact .inr (by rw [h]; exact List.mem_cons_self)
    · rcases putH_mem h with h | h
      · exact .inl h
      · exact .inr (List.mem_cons_of_mem _ h)
theorem HpRows.put {W' : World} {g' : Nat} {t' : TypeId} {b' : Bool} {S' : List Seg} (hr : Row W' g' t' (fls S').toArray) (hS : okS S') (hb : b' = true → B ≤ g') (hg : W.grownBy W' (some g)) : ∀ {H : HB} {i : Nat}, HpRows B W H → nthH H i = some (g, t, b, S) → (g' = g ∨ ∀ s ∈ H, s.1 ≠ g') → HpRows B W' (putH H i (g', t', b', S'))
  | [], _, _, h, _ => by simp [nthH] at h
  | r :: H, 0, hH, h, hn => by
    simp [nthH] at h
    subst h
    refine ⟨⟨hr, hS, hb⟩, fun s hs => ?_, HpRows.far hg hH.2.2 hH.2.1⟩
    rcases hn with rfl | hn
    · exact hH.2.1 s hs
    · exact hn s (List.mem_cons_of_mem _ hs)
  | r :: H, i + 1, hH, h, hn => by
    have h : nthH H i = some (g, t, b, S) := by simpa [nthH] using h
    have hne : r.1 ≠ g := fun e => hH.2.1 _ (nthH_mem h) e.symm
    refine ⟨⟨(hg.block r.1 hH.1.1.lt (fun e => hne (by cases e; rfl))).trans hH.1.1, hH.1.2⟩, fun s hs => ?_, HpRows.put hr hS hb hg hH.2.2 h (hn.imp id fun hn s hs => hn s (List.mem_cons_of_mem _ hs))⟩
    rcases putH_mem hs with rfl | hs
    · rcases hn with rfl | hn
      · exact fun e => hne e.symm
      · exact fun e => hn r List.mem_cons_self e.symm
    · exact hH.2.1 s hs
structure Grow (size n c p q : Nat) : Prop where
  hp : p = n * size
  hq : p + q = c * size
  le : n ≤ c
  most : c ≤ maxLen
variable {n c m cx p q bytes k : Nat} {L J : List Value} {SX : List Seg} {s : Operand} {Q2 : Prop}
theorem elem_parts {el : TypeId} (hT : TabOk P T) (hty : findT el T = some e) (hlz : lenS e.zero = e.size) : ∃ ie z, P.info? el = some ie ∧ ie.zero = some z ∧ ie.size = e.size ∧ z.cells.toList = fls e.zero ∧ z.cells.size = e.size := by
  have hE := hT.find hty
  have hsz := hE.size
  have hzo := hE.zok
  have hz0 := hE.zero
  have hoz := hE.okz
  unfold sizeT at hsz
  unfold zeroOk at hzo
  unfold zeroL at hz0
  cases hie : P.info? el with
  | none => simp [hie] at hsz
  | some ie =>
    simp only [hie, Option.map_some, Option.some.injEq, Option.bind_some] at hsz hzo hz0
    obtain ⟨z, hzz⟩ := Option.isSome_iff_exists.1 hzo
    simp only [hzz] at hz0
    refine ⟨ie, z, rfl, hzz, hsz, hz0, ?_⟩
    have h1 := congrArg List.length hz0
    rw [okS_len hoz, hlz, Array.length_toList] at h1
    exact h1
theorem okA_fls {S : List Seg} (h : okS S) {n : Nat} (hl : lenS S = n) : OkA (fls S) n := ⟨by rw [okS_len h, hl], okS_one h⟩
theorem lenS_app : ∀ {S T : List Seg}, lenS (S ++ T) = lenS S + lenS T
  | [], T => by simp [lenS]
  | .one v :: S, T => by simp [lenS, lenS_app (S := S)]; omega
  | .many A n :: S, T => by simp [lenS, lenS_app (S := S)]; omega
theorem lenS_rep {S : List Seg} : ∀ n, lenS (repS n S) = n * lenS S
  | 0 => by simp [repS, lenS]
  | n + 1 => by rw [repS, lenS_app, lenS_rep n, Nat.succ_mul, Nat.add_comm]
theorem fls_two {p q : Nat} : fls [.many L p, .many J q] = L ++ J := by simp [fls]
theorem at_app {v : Value} {W' : World} (hgd : op.guard = none) (ho : op.op = .call { callee := .builtin .append, args := #[s, x], argTypes := #[ty, ty] }) {vs vx : Value} (hs : a.eval s = vs) (hx : a.eval x = vx)
    (hr : (Builtin.append_ #[ty, ty] op.type #[vs, vx]).run P W = .ok v W') (h : wpList P ops Q rest (a.put op.dst v) W') : wpList P ops Q (op :: rest) a W := by
  refine wpList_plain hgd fun K hK => ?_
  unfold Oper.wp execOp
  simp only [ho, resolve, invoke, builtin, Sem.run_bind, Sem.run_pure, Result.andThen_ok, List.map_toArray, List.map_cons, List.map_nil, hs, hx, hr]
  exact hK _ _ h
theorem hApp (i ix : Nat) (hT : TabOk P T) (hTS : TabSOk P TS) (hfs : findS ty TS = some el) (hty : findT el T = some e) (hlz : lenS e.zero = e.size) (hgd : op.guard = none)
    (ho : op.op = .call { callee := .builtin .append, args := #[s, x], argTypes := #[ty, ty] }) (hs : a.eval s = .slice (some ⟨g, 0, none⟩) n c) (hx : a.eval x = .slice (some ⟨gx, 0, none⟩) m cx) (hH : Hp B w0 W H)
    (hi : nthH H i = some (g, el, true, [.many L p, .many J q])) (hix : nthH H ix = some (gx, tx, bx, SX)) (hlx : lenS SX = m * e.size) (hsz : Nat.ble 1 e.size = true)
    (h : Grow e.size n c p q ∧ n + m ≤ 1000000 ∧ ∀ W' g' c' p' q' J', Grow e.size (n + m) c' p' q' → OkA (L ++ fls SX) p' → OkA J' q' → Hp B w0 W' (putH H i (g', el, true, [.many (L ++ fls SX) p', .many J' q'])) → wpList P ops Q rest (a.put op.dst (.slice (some ⟨g', 0, none⟩) (n + m) c')) W') : wpList P ops Q (op :: rest) a W := by
  obtain ⟨hG, hml, h⟩ := h
  have hsz := Nat.le_of_ble_eq_true hsz
  have hu := (hTS.find hfs).slice
  have hby := (hTS.find hfs).bytes
  obtain ⟨hr1, hS, hB⟩ := hH.rows.mem hi
  obtain ⟨hrx, hSX, _⟩ := hH.rows.mem hix
  obtain ⟨ie, z, hq, hz, e1, e2, e3⟩ := elem_parts hT hty hlz
  have hby : ie.bytes ≤ 100000 := by unfold bytesOk at hby; rw [hq] at hby; exact Nat.le_of_ble_eq_true hby
  have hLl : L.length = p := hS.1.1
  have hJl : J.length = q := hS.2.1.1
  have hxl := okS_len hSX
  rw [fls_two] at hr1
  have hnews : ∀ j u, (fls SX)[j]? = some u → W.cell? ((⟨gx, 0, none⟩ : Addr).add j) = some u := fun j u hu => by
    rw [show (⟨gx, 0, none⟩ : Addr).add j = ⟨gx, j, none⟩ by unfold Addr.add; split <;> simp_all, hrx.cell]
    simpa using hu
  have okL : OkA (L ++ fls SX) ((n + m) * e.size) := ⟨by rw [List.length_append, hLl, hxl, hlx, hG.hp, Nat.add_mul], fun v hv => by
    rcases List.mem_append.1 hv with hv | hv
    · exact hS.1.2 v hv
    · exact okS_one hSX v hv⟩
  by_cases hroom : n + m ≤ c
  · have hmul : (n + m) * e.size ≤ c * e.size := Nat.mul_le_mul_right _ hroom
    have hmm : n * e.size + m * e.size = (n + m) * e.size := (Nat.add_mul _ _ _).symm
    have hp := hG.hp
    have hqq := hG.hq
    have hr := run_append_room (P := P) W ty op.type el ie hu hq g n c (L ++ J).toArray hr1 ⟨gx, 0, none⟩ m cx (fls SX) (by rw [hxl, hlx, e1]) hnews (okS_one hSX) hroom (by simp [hLl, hJl, hxl, hlx, e1]; omega)
    refine at_app hgd ho hs hx hr ?_
    have hcell : (((L ++ J).toArray.toList.take (n * ie.size) ++ fls SX ++ (L ++ J).toArray.toList.drop (n * ie.size + (fls SX).length)).toArray : Array Value) = (fls [.many (L ++ fls SX) ((n + m) * e.size), .many (J.drop (m * e.size)) (c * e.size - (n + m) * e.size)]).toArray := by
      rw [fls_two, e1, hxl, hlx, ← hp]
      congr 1
      simp only [List.append_assoc]
      rw [List.take_append_of_le_length (by omega), List.take_of_length_le (by omega)]
      congr 2
      rw [List.drop_append, List.drop_of_length_le (by omega), List.nil_append, hLl, Nat.add_sub_cancel_left]
    have okJ : OkA (J.drop (m * e.size)) (c * e.size - (n + m) * e.size) := ⟨by rw [List.length_drop, hJl]; omega, fun v hv => hS.2.1.2 v (List.mem_of_mem_drop hv)⟩
    have hgr : W.grownBy (W.setRow g ((L ++ J).toArray.toList.take (n * ie.size) ++ fls SX ++ (L ++ J).toArray.toList.drop (n * ie.size + (fls SX).length)).toArray) (some g) :=
      ⟨rfl, rfl, rfl, by simp, fun k _ hk => setRow_other W g k _ (fun e => hk (by simp [e]))⟩
    refine h _ g c ((n + m) * e.size) (c * e.size - (n + m) * e.size) (J.drop (m * e.size)) ⟨rfl, by omega, hroom, hG.most⟩ okL okJ ?_
    refine ⟨below_gb hH.below hgr (hB rfl) hH.base, Nat.le_trans hH.base hgr.size, HpRows.put ?_ (show okS [.many (L ++ fls SX) ((n + m) * e.size), .many (J.drop (m * e.size)) (c * e.size - (n + m) * e.size)] from ⟨okL, okJ, trivial⟩) (fun _ => hB rfl) hgr hH.rows hi (.inl rfl)⟩
    rw [← hcell]
    exact setRow_heap W g _ _ el _ hr1
  · have hr := run_append_grow (P := P) W ty op.type el ie z hu hq hz ⟨g, 0, none⟩ n c L (by rw [hLl, e1, hG.hp]) (fun j u hu => by
      rw [show (⟨g, 0, none⟩ : Addr).add j = ⟨g, j, none⟩ by unfold Addr.add; split <;> simp_all, hr1.cell, List.getElem?_toArray, List.getElem?_append_left (List.getElem?_eq_some_iff.1 hu).1]
      exact hu) ⟨gx, 0, none⟩ m cx (fls SX) (by rw [hxl, hlx, e1]) hnews (by omega) (by omega) (growslice_fits (by omega) (Nat.le_trans (Nat.mul_le_mul hml hby) (by decide)))
    refine at_app hgd ho hs hx hr ?_
    have hge := grownCap_ge W (n + m) c el
    have hmost : grownCap W (n + m) c el ≤ maxLen := grownCap_le_maxLen W (n + m) c el (by simp only [maxLen]; omega)
    generalize grownCap W (n + m) c el = c' at *
    have hzc : Builtin.zeroCells z.cells (c' - (n + m)) = (fls (repS (c' - (n + m)) e.zero)).toArray := rep_cells e2 (by omega) _
    have hoz := okS_rep (hT.find hty).okz (c' - (n + m))
    have hlr : lenS (repS (c' - (n + m)) e.zero) = (c' - (n + m)) * e.size := by rw [lenS_rep, hlz]
    have hmul : (n + m) * e.size + (c' - (n + m)) * e.size = c' * e.size := by rw [← Nat.add_mul]; congr 1; omega
    have hcell : (L.toArray ++ (fls SX).toArray ++ Builtin.zeroCells z.cells (c' - (n + m)) : Array Value) = (fls [.many (L ++ fls SX) ((n + m) * e.size), .many (fls (repS (c' - (n + m)) e.zero)) ((c' - (n + m)) * e.size)]).toArray := by
      rw [hzc, fls_two]; simp
    rw [hcell]
    have okJ := okA_fls hoz hlr
    refine h _ W.heap.size c' ((n + m) * e.size) ((c' - (n + m)) * e.size) _ ⟨rfl, hmul, hge, hmost⟩ okL okJ ?_
    have hgr : W.grownBy (W.drew.alloc (.cells (fls [.many (L ++ fls SX) ((n + m) * e.size), .many (fls (repS (c' - (n + m)) e.zero)) ((c' - (n + m)) * e.size)]).toArray el)) (some g) := ⟨rfl, rfl, rfl, by simp, fun k hk _ => heap_alloc_old W.drew _ hk⟩
    refine ⟨below_gb hH.below hgr (hB rfl) hH.base, Nat.le_trans hH.base hgr.size, HpRows.put (Row.new W.drew el _) (show okS [.many (L ++ fls SX) ((n + m) * e.size), .many (fls (repS (c' - (n + m)) e.zero)) ((c' - (n + m)) * e.size)] from ⟨okL, okJ, trivial⟩) (fun _ => hH.base) hgr hH.rows hi (.inr fun s hs e => ?_)⟩
    have h1 := hH.rows.lt s hs
    have h2 : W.drew.heap.size = W.heap.size := rfl
    omega
theorem hApp0 (ix : Nat) (hT : TabOk P T) (hTS : TabSOk P TS) (hfs : findS ty TS = some el) (hty : findT el T = some e) (hlz : lenS e.zero = e.size) (hgd : op.guard = none)
    (ho : op.op = .call { callee := .builtin .append, args := #[s, x], argTypes := #[ty, ty] }) (hs : a.eval s = .slice none 0 0) (hx : a.eval x = .slice (some ⟨gx, 0, none⟩) m cx) (hH : Hp B w0 W H)
    (hix : nthH H ix = some (gx, tx, bx, SX)) (hlx : lenS SX = m * e.size) (hsz : Nat.ble 1 e.size = true)
    (h : 0 < m ∧ m ≤ 1000000 ∧ ∀ W' g' c' p' q' J', Grow e.size m c' p' q' → OkA (fls SX) p' → OkA J' q' → Hp B w0 W' ((g', el, true, [.many (fls SX) p', .many J' q']) :: H) → wpList P ops Q rest (a.put op.dst (.slice (some ⟨g', 0, none⟩) m c')) W') : wpList P ops Q (op :: rest) a W := by
  obtain ⟨hm0, hml, h⟩ := h
  have hsz := Nat.le_of_ble_eq_true hsz
  have hu := (hTS.find hfs).slice
  have hby := (hTS.find hfs).bytes
  obtain ⟨hrx, hSX, _⟩ := hH.rows.mem hix
  obtain ⟨ie, z, hq, hz, e1, e2, e3⟩ := elem_parts hT hty hlz
  have hby : ie.bytes ≤ 100000 := by unfold bytesOk at hby; rw [hq] at hby; exact Nat.le_of_ble_eq_true hby
  have hxl := okS_len hSX
  have hnews : ∀ j u, (fls SX)[j]? = some u → W.cell? ((⟨gx, 0, none⟩ : Addr).add j) = some u := fun j u hu => by
    rw [show (⟨gx, 0, none⟩ : Addr).add j = ⟨gx, j, none⟩ by unfold Addr.add; split <;> simp_all, hrx.cell]
    simpa using hu
  have okL : OkA (fls SX) (m * e.size) := okA_fls hSX hlx
  have hr := run_append_nil (P := P) W ty op.type el ie z hu hq hz ⟨gx, 0, none⟩ m cx (fls SX) (by rw [hxl, hlx, e1]) hnews hm0 (by omega) (Nat.le_trans (Nat.mul_le_mul hml hby) (by decide))
  refine at_app hgd ho hs hx hr ?_
  have hge := grownCap_ge W m 0 el
  have hmost : grownCap W m 0 el ≤ maxLen := grownCap_le_maxLen W m 0 el (by simp only [maxLen]; omega)
  generalize grownCap W m 0 el = c' at *
  have hzc : Builtin.zeroCells z.cells (c' - m) = (fls (repS (c' - m) e.zero)).toArray := rep_cells e2 (by omega) _
  have hoz := okS_rep (hT.find hty).okz (c' - m)
  have hlr : lenS (repS (c' - m) e.zero) = (c' - m) * e.size := by rw [lenS_rep, hlz]
  have hmul : m * e.size + (c' - m) * e.size = c' * e.size := by rw [← Nat.add_mul]; congr 1; omega
  have hcell : ((fls SX).toArray ++ Builtin.zeroCells z.cells (c' - m) : Array Value) = (fls [.many (fls SX) (m * e.size), .many (fls (repS (c' - m) e.zero)) ((c' - m) * e.size)]).toArray := by
    rw [hzc, fls_two]; simp
  rw [hcell]
  have okJ := okA_fls hoz hlr
  exact h _ W.heap.size c' (m * e.size) ((c' - m) * e.size) _ ⟨rfl, hmul, hge, hmost⟩ okL okJ (hH.drew.alloc el ⟨okL, okJ, trivial⟩)
def AtL (A : List Value) (o : Nat) (C : List Value) : Prop := ∃ pre post, A = pre ++ (C ++ post) ∧ pre.length = o
theorem run_rowAt {i : Nat} {el : TypeId} (hT : TabOk P T) (hH : Hp B w0 W H) (hi : nthH H i = some (g, t, b, .many A p :: S)) (hty : findT el T = some e) (hr : e.row = true) (hc : AtL A o (fls S1)) (hl : lenS S1 = e.size) (hS1 : okS S1) : (Instr.loadAt el (.pointer (some ⟨g, o, none⟩))).run P W = .ok (.agg (fls S1).toArray) W := by
  obtain ⟨pre, post, h1, h2⟩ := hc
  obtain ⟨d, hu, hd⟩ := rowT_true (by rw [(hT.find hty).row, hr])
  have hs := (hT.find hty).size
  unfold sizeT at hs
  exact run_loadAt_mid (P := P) W g o el (fls S1) d (range_of hH hi ⟨pre, post ++ fls S, by rw [fls, h1]; simp, h2⟩) hu hd (by rw [hs, okS_len hS1, hl])
theorem hLx (i : Nat) (hT : TabOk P T) (ho : op.op = .load ty x) (hw : Region.wanted op (yielded ops a.tmps) = true) (hx : a.eval x = .pointer (some ⟨g, o, none⟩)) (hH : Hp B w0 W H) (hi : nthH H i = some (g, t, b, .many A p :: S))
    (hty : findT ty T = some e) (hr : e.row = true) (h : ∃ k C, AtL A k (fls C) ∧ o = k ∧ lenS C = e.size ∧ okS C ∧ ∀ W', Hp B w0 W' H → wpList P ops Q rest (a.put op.dst (.agg (fls C).toArray)) W') : wpList P ops Q (op :: rest) a W := by
  obtain ⟨k, C, h1, rfl, h2, h3, h⟩ := h
  exact wpL_load ho hw hx (run_rowAt hT hH hi hty hr h1 h2 h3) (h W hH)
theorem hLx1 (i : Nat) (hT : TabOk P T) (ho : op.op = .load ty x) (hw : Region.wanted op (yielded ops a.tmps) = true) (hx : a.eval x = .pointer (some ⟨g, o, none⟩)) (hH : Hp B w0 W H) (hi : nthH H i = some (g, t, b, .many A p :: S))
    (hty : findT ty T = some e) (hr : e.row = false) (h : ∃ k v, CellA A k v ∧ o = k ∧ ∀ W', Hp B w0 W' H → wpList P ops Q rest (a.put op.dst v) W') : wpList P ops Q (op :: rest) a W := by
  obtain ⟨k, v, h1, rfl, h⟩ := h
  have h1 : A[o]? = some v := h1
  exact wpL_load ho hw hx (run_cell hT hH hi hty hr (by rw [fls, List.getElem?_append_left (List.getElem?_eq_some_iff.1 h1).1]; exact h1)) (h W hH)
theorem qLx {K : Act → Prop} (i : Nat) (hT : TabOk P T) (ho : op.op = .load ty x) (hx : a.eval x = .pointer (some ⟨g, o, none⟩)) (hi : nthH H i = some (g, t, b, .many A p :: S)) (hty : findT ty T = some e) (hr : e.row = true)
    (h : ∃ k C, AtL A k (fls C) ∧ o = k ∧ lenS C = e.size ∧ okS C ∧ K (a.put op.dst (.agg (fls C).toArray))) : op.quiet P a (fun W' => ∃ y : HW B w0 H, W' = y.w) K := by
  obtain ⟨k, C, h1, rfl, h2, h3, h⟩ := h
  exact quiet_load ho hx (fun w hw => by obtain ⟨y, rfl⟩ := hw; exact run_rowAt hT y.hp hi hty hr h1 h2 h3) h
theorem qLx1 {K : Act → Prop} (i : Nat) (hT : TabOk P T) (ho : op.op = .load ty x) (hx : a.eval x = .pointer (some ⟨g, o, none⟩)) (hi : nthH H i = some (g, t, b, .many A p :: S)) (hty : findT ty T = some e) (hr : e.row = false)
    (h : ∃ k v, CellA A k v ∧ o = k ∧ K (a.put op.dst v)) : op.quiet P a (fun W' => ∃ y : HW B w0 H, W' = y.w) K := by
  obtain ⟨k, v, h1, rfl, h⟩ := h
  have h1 : A[o]? = some v := h1
  exact quiet_load ho hx (fun w hw => by obtain ⟨y, rfl⟩ := hw; exact run_cell hT y.hp hi hty hr (by rw [fls, List.getElem?_append_left (List.getElem?_eq_some_iff.1 h1).1]; exact h1)) h
end
end Go.Proofs.YtdnehjhijmeihaaGreat
namespace Go.Proofs.YtdnehjhijmeihaaGreat
set_option linter.unusedVariables false
theorem sl_26 : SlOk Tryz.prog 26 25 := ⟨Tryz.underlying26, by kernel_rfl⟩
theorem sl_27 : SlOk Tryz.prog 27 119 := ⟨Tryz.underlying27, by kernel_rfl⟩
theorem sl_114 : SlOk Tryz.prog 114 5 := ⟨Tryz.underlying114, by kernel_rfl⟩
theorem sl_174 : SlOk Tryz.prog 174 9 := ⟨Tryz.underlying174, by kernel_rfl⟩
theorem sl_188 : SlOk Tryz.prog 188 3 := ⟨Tryz.underlying188, by kernel_rfl⟩
def tabs : List (Nat × Nat) := [(26, 25), (27, 119), (114, 5), (174, 9), (188, 3)]
theorem tabs_ok : TabSOk Tryz.prog tabs := by
  intro p hp
  unfold tabs at hp
  rcases List.mem_cons.1 hp with rfl | hp
  · exact sl_26
  rcases List.mem_cons.1 hp with rfl | hp
  · exact sl_27
  rcases List.mem_cons.1 hp with rfl | hp
  · exact sl_114
  rcases List.mem_cons.1 hp with rfl | hp
  · exact sl_174
  rcases List.mem_cons.1 hp with rfl | hp
  · exact sl_188
  exact absurd hp (by simp)
end Go.Proofs.YtdnehjhijmeihaaGreat
namespace Go.Proofs.YtdnehjhijmeihaaGreat
open Go.ChangeShapes Go.WideShapes Go.ChangeAt Go.RowKit
set_option linter.unusedVariables false
set_option linter.unusedSimpArgs false
set_option maxRecDepth 20000
attribute [local irreducible] wpList
def OldR (w : World) (q : Addr) (C : List Value) : Prop := (∀ j v, C[j]? = some v → w.cell? (q.add j) = some v) ∧ q.block < w.heap.size
def OldC (w : World) (p : Addr) (v : Value) : Prop := w.cell? p = some v ∧ p.block < w.heap.size
theorem add_block (q : Addr) (j : Nat) : (q.add j).block = q.block := by unfold Addr.add; split <;> rfl
theorem add_succ (a : Addr) (n : Nat) : a.add (n + 1) = ⟨a.block, a.off + (n + 1), none⟩ := by
  unfold Addr.add
  rw [if_neg (by omega)]
theorem OldR.cell {w : World} {q : Addr} {C : List Value} {j : Nat} {v : Value} (h : OldR w q C) (hj : C[j]? = some v) : OldC w (q.add j) v := ⟨h.1 j v hj, by rw [add_block]; exact h.2⟩
theorem OldR.cell0 {w : World} {q : Addr} {C : List Value} {v : Value} (h : OldR w q C) (hj : C[0]? = some v) : OldC w q v := by
  have := h.cell hj
  rwa [show q.add 0 = q by unfold Addr.add; rw [if_pos rfl]] at this
theorem OldR.cellS {w : World} {q : Addr} {C : List Value} {j : Nat} {v : Value} (h : OldR w q C) (hj : C[j + 1]? = some v) : OldC w ⟨q.block, q.off + (j + 1), none⟩ v := by
  have := h.cell hj
  rwa [add_succ] at this
theorem OldC.below {w W : World} {q : Addr} {v : Value} (h : OldC w q v) (hb : Below w.heap.size w W) : OldC W q v :=
  ⟨by rw [hb.cell h.2]; exact h.1, Nat.lt_of_lt_of_le h.2 hb.size⟩
theorem OldR.below {w W : World} {q : Addr} {C : List Value} (h : OldR w q C) (hb : Below w.heap.size w W) : OldR W q C :=
  ⟨fun j v hv => by rw [hb.cell (by rw [add_block]; exact h.2)]; exact h.1 j v hv, Nat.lt_of_lt_of_le h.2 hb.size⟩
theorem cell_lt1 {w : World} {p : Addr} {v : Value} (h : w.cell? p = some v) : p.block < w.heap.size := by
  by_cases hlt : p.block < w.heap.size
  · exact hlt
  · unfold World.cell? at h
    rw [Array.getElem?_eq_none (by omega)] at h
    simp at h
theorem OldR.part {w : World} {q : Addr} {C A pre post : List Value} {k : Nat} (h : OldR w q C) (he : C = pre ++ (A ++ post)) (hk : pre.length = k) : OldR w (q.add k) A :=
  ⟨fun j v hv => by
    have h1 : C[k + j]? = some v := by
      rw [he, List.getElem?_append_right (by omega), hk, Nat.add_sub_cancel_left, List.getElem?_append_left (List.getElem?_eq_some_iff.1 hv).1]
      exact hv
    have := h.1 _ _ h1
    have e : (q.add k).add j = q.add (k + j) := by
      unfold Addr.add
      by_cases hk : k = 0 <;> by_cases hj : j = 0 <;> simp [hk, hj, Nat.add_assoc]
    rw [e]; exact this, by rw [add_block]; exact h.2⟩
section
variable {P : Program} {T : Tab} {B : Nat} {w0 W W' : World} {H H' D D' : HB} {g g' : Nat} {t t' : TypeId} {b b' : Bool} {S S' : List Seg} {e : TyE} {ops : Array Oper} {rest : List Oper} {op : Oper} {a : Act} {Q : Exit → Act → World → Prop} {ty : TypeId} {x y : Operand} {o : Nat} {v : Value} {A C : List Value} {p : Nat} {q : Addr}
theorem run_oldC (hT : TabOk P T) (hH : Hp w0.heap.size w0 W H) (hc : OldC w0 q v) (hty : findT ty T = some e) (hr : e.row = false) : (Instr.loadAt ty (.pointer (some q))).run P W = .ok v W :=
  run_load1 (by rw [(hT.find hty).row, hr]) (by rw [hH.below.cell hc.2, hc.1])
theorem run_oldR (hT : TabOk P T) (hH : Hp w0.heap.size w0 W H) (hc : OldR w0 q (fls S)) (hS : okS S) (hty : findT ty T = some e) (hr : e.row = true) (hl : lenS S = e.size) : (Instr.loadAt ty (.pointer (some q))).run P W = .ok (.agg (fls S).toArray) W := by
  obtain ⟨d, hu, hd⟩ := rowT_true (by rw [(hT.find hty).row, hr])
  have hs := (hT.find hty).size
  unfold sizeT at hs
  have hll : (loadCells q (fls S).length).run P W = .ok (fls S).toArray W :=
    run_loadCells_list (P := P) W q (fls S) (fun j v hv => by rw [hH.below.cell (by rw [add_block]; exact hc.2)]; exact hc.1 j v hv)
  have hi : (P.info? ty).map (·.size) = some (fls S).length := by rw [hs, okS_len hS, hl]
  cases hq : P.info? ty with
  | none => simp [hq] at hi
  | some i =>
    have hs : i.size = (fls S).length := by simpa [hq] using hi
    have hagg : (isAgg ty).run P W = .ok true W := by
      unfold isAgg
      rw [Sem.run_bind, run_underlying hu W]
      cases d <;> simp_all
    simp [Instr.loadAt, Instr.sureAddr, loadVar, Sem.run_bind, hagg, sizeOf, typeInfo, hq, hs, hll]
theorem hLo (hT : TabOk P T) (ho : op.op = .load ty x) (hw : Region.wanted op (yielded ops a.tmps) = true) (hx : a.eval x = .pointer (some q)) (hH : Hp w0.heap.size w0 W H) (hty : findT ty T = some e) (hr : e.row = false)
    (h : ∃ v, OldC w0 q v ∧ ∀ W', Hp w0.heap.size w0 W' H → wpList P ops Q rest (a.put op.dst v) W') : wpList P ops Q (op :: rest) a W := by
  obtain ⟨v, hv, h⟩ := h
  exact wpL_load ho hw hx (run_oldC hT hH hv hty hr) (h W hH)
theorem qLo {K : Act → Prop} (hT : TabOk P T) (ho : op.op = .load ty x) (hx : a.eval x = .pointer (some q)) (hty : findT ty T = some e) (hr : e.row = false)
    (h : ∃ v, OldC w0 q v ∧ K (a.put op.dst v)) : op.quiet P a (fun W' => ∃ y : HW w0.heap.size w0 H, W' = y.w) K := by
  obtain ⟨v, hv, hk⟩ := h
  exact quiet_load ho hx (fun w hw => by obtain ⟨y, rfl⟩ := hw; exact run_oldC hT y.hp hv hty hr) hk
theorem hLoR (hT : TabOk P T) (ho : op.op = .load ty x) (hw : Region.wanted op (yielded ops a.tmps) = true) (hx : a.eval x = .pointer (some q)) (hH : Hp w0.heap.size w0 W H) (hty : findT ty T = some e) (hr : e.row = true)
    (h : ∃ S, OldR w0 q (fls S) ∧ okS S ∧ lenS S = e.size ∧ ∀ W', Hp w0.heap.size w0 W' H → wpList P ops Q rest (a.put op.dst (.agg (fls S).toArray)) W') : wpList P ops Q (op :: rest) a W := by
  obtain ⟨S, h1, h2, h3, h⟩ := h
  exact wpL_load ho hw hx (run_oldR hT hH h1 h2 hty hr h3) (h W hH)
theorem qLoR {K : Act → Prop} (hT : TabOk P T) (ho : op.op = .load ty x) (hx : a.eval x = .pointer (some q)) (hty : findT ty T = some e) (hr : e.row = true)
    (h : ∃ S, OldR w0 q (fls S) ∧ okS S ∧ lenS S = e.size ∧ K (a.put op.dst (.agg (fls S).toArray))) : op.quiet P a (fun W' => ∃ y : HW w0.heap.size w0 H, W' = y.w) K := by
  obtain ⟨S, h1, h2, h3, hk⟩ := h
  exact quiet_load ho hx (fun w hw => by obtain ⟨y, rfl⟩ := hw; exact run_oldR hT y.hp h1 h2 hty hr h3) hk
theorem HpRows.iff : ∀ {H : HB}, HpRows B W H ↔ (∀ r ∈ H, Row W r.1 r.2.1 (fls r.2.2.2).toArray ∧ okS r.2.2.2 ∧ (r.2.2.1 = true → B ≤ r.1)) ∧ (H.map (·.1)).Nodup
  | [] => by simp [HpRows]
  | r :: H => by
    have ih := HpRows.iff (H := H)
    rw [HpRows, ih]
    constructor
    · rintro ⟨h1, h2, h3, h4⟩
      refine ⟨fun s hs => ?_, ?_⟩
      · rcases List.mem_cons.1 hs with rfl | hs
        · exact h1
        · exact h3 s hs
      · rw [List.map_cons, List.nodup_cons]
        refine ⟨fun hm => ?_, h4⟩
        obtain ⟨s, hs, he⟩ := List.mem_map.1 hm
        exact h2 s hs he
    · rintro ⟨h1, h2⟩
      rw [List.map_cons, List.nodup_cons] at h2
      exact ⟨h1 r (by simp), fun s hs he => h2.1 (List.mem_map.2 ⟨s, hs, he⟩), fun s hs => h1 s (by simp [hs]), h2.2⟩
theorem Hp.perm (h : Hp B w0 W H) (hp : H.Perm H') : Hp B w0 W H' := by
  obtain ⟨h1, h2⟩ := HpRows.iff.1 h.rows
  exact ⟨h.below, h.base, HpRows.iff.2 ⟨fun r hr => h1 r (hp.mem_iff.2 hr), (hp.map _).nodup_iff.1 h2⟩⟩
theorem Hp.nil (h : Hp B w0 W H) : Hp B w0 W [] := ⟨h.below, h.base, trivial⟩
def Made (w w' : World) (D : HB) : Prop := Hp w.heap.size w w' D ∧ ∀ r ∈ D, r.2.2.1 = true
theorem Hp.join (h : Hp B w0 W H) (hm : Made W W' D) : Hp B w0 W' (H ++ D) := by
  have h' := h.keep hm.1.below
  obtain ⟨h1, h2⟩ := HpRows.iff.1 h'.rows
  obtain ⟨h3, h4⟩ := HpRows.iff.1 hm.1.rows
  refine ⟨h'.below, h'.base, HpRows.iff.2 ⟨fun r hr => ?_, ?_⟩⟩
  · rcases List.mem_append.1 hr with hr | hr
    · exact h1 r hr
    · exact ⟨(h3 r hr).1, (h3 r hr).2.1, fun hb => Nat.le_trans h.base ((h3 r hr).2.2 hb)⟩
  · rw [List.map_append, List.nodup_append]
    refine ⟨h2, h4, fun x hx y hy he => ?_⟩
    obtain ⟨r, hr, e1⟩ := List.mem_map.1 hx
    obtain ⟨s, hs, e2⟩ := List.mem_map.1 hy
    have l1 := h.rows.lt r hr
    have l2 := (h3 s hs).2.2 (hm.2 s hs)
    omega
theorem Hp.joinF (h : Hp B w0 W H) (hm : Made W W' D) : Hp B w0 W' (D ++ H) := (h.join hm).perm List.perm_append_comm
end
theorem SubH.trans {A B C : HB} (h : SubH A B) (k : SubH B C) : SubH A C := by
  induction h generalizing C with
  | refl => exact k
  | drop _ ih => exact .drop (ih k)
  | keep h ih =>
    cases k with
    | refl => exact .keep h
    | drop k => exact .drop (ih k)
    | keep k => exact .keep (ih k)
theorem SubH.appL : ∀ {A B : HB}, SubH (A ++ B) A
  | [], B => SubH.nil
  | _ :: A, B => .keep SubH.appL
theorem SubH.appR : ∀ {A B : HB}, SubH (A ++ B) B
  | [], B => .refl
  | _ :: A, B => .drop SubH.appR
theorem SubH.l {A B D : HB} (h : SubH A D) : SubH (A ++ B) D := SubH.appL.trans h
theorem SubH.r {A B D : HB} (h : SubH B D) : SubH (A ++ B) D := SubH.appR.trans h
def OldS (w : World) (q : Addr) (C : List Value) : Prop := ∀ j u, C[j]? = some u → w.cell? (q.add j) = some u
section
variable {P : Program} {T : Tab} {TS : List (Nat × Nat)} {B : Nat} {w0 W : World} {H : HB} {g : Nat} {t el ty : TypeId} {b : Bool} {S : List Seg} {e : TyE}
variable {ops : Array Oper} {rest : List Oper} {op : Oper} {a : Act} {Q : Exit → Act → World → Prop} {x s : Operand} {n c m cx p q : Nat} {L J C : List Value} {qa : Addr}
theorem OldS.below {w W : World} (h : OldS w qa C) (hb : Below w.heap.size w W) : OldS W qa C := fun j u hj => by
  have := h j u hj
  rw [hb.cell (cell_lt1 this)]
  exact this
end
theorem nthH_perm {r : Nat × TypeId × Bool × List Seg} : ∀ {H : HB} {i : Nat}, nthH H i = some r → H.Perm (r :: H.eraseIdx i)
  | [], _, h => by simp [nthH] at h
  | x :: H, 0, h => by simp [nthH] at h; subst h; simp
  | x :: H, i + 1, h => by
    have := nthH_perm (H := H) (i := i) (by simpa [nthH] using h)
    rw [List.eraseIdx_cons_succ]
    exact (List.Perm.cons x this).trans (List.Perm.swap _ _ _)
theorem updH_perm {g : Nat} {t : TypeId} {b : Bool} {S S' : List Seg} : ∀ {H H' : HB} {i : Nat}, nthH H i = some (g, t, b, S) → updH H i S' = some H' → H'.Perm ((g, t, b, S') :: H.eraseIdx i)
  | [], _, _, h, _ => by simp [nthH] at h
  | x :: H, H', 0, h, hu => by
    simp [nthH] at h
    simp [updH] at hu
    subst h
    subst hu
    simp
  | x :: H, H', i + 1, h, hu => by
    unfold updH at hu
    simp only at hu
    cases hu1 : updH H i S' with
    | none => rw [hu1] at hu; simp at hu
    | some H1 =>
      rw [hu1] at hu
      simp at hu
      subst hu
      have := updH_perm (H := H) (i := i) (by simpa [nthH] using h) hu1
      rw [List.eraseIdx_cons_succ]
      exact (List.Perm.cons x this).trans (List.Perm.swap _ _ _)
theorem perm2 {H H1 H2 : HB} {i j g1 g2 : Nat} {t1 t2 : TypeId} {b1 b2 : Bool} {S1 S1' S2 S2' : List Seg} (hi : nthH H i = some (g1, t1, b1, S1)) (hu : updH H i S1' = some H1) (hj : nthH H1 j = some (g2, t2, b2, S2)) (hu2 : updH H1 j S2' = some H2) (ht : t1 ≠ t2) :
    ∃ H0, H.Perm ((g1, t1, b1, S1) :: (g2, t2, b2, S2) :: H0) ∧ H2.Perm ((g1, t1, b1, S1') :: (g2, t2, b2, S2') :: H0) := by
  have p1 := nthH_perm hi
  have p2 := updH_perm hi hu
  have p3 := nthH_perm hj
  have p4 := updH_perm hj hu2
  have hm : (g2, t2, b2, S2) ∈ H.eraseIdx i := by
    have := p2.mem_iff.1 (nthH_mem hj)
    rcases List.mem_cons.1 this with h | h
    · exact absurd (congrArg (fun x => x.2.1) h).symm ht
    · exact h
  obtain ⟨A, C, hAC⟩ := List.append_of_mem hm
  have p5 : (H.eraseIdx i).Perm ((g2, t2, b2, S2) :: (A ++ C)) := by rw [hAC]; exact List.perm_middle
  refine ⟨A ++ C, p1.trans (p5.cons _), ?_⟩
  have p6 : (H1.eraseIdx j).Perm ((g1, t1, b1, S1') :: (A ++ C)) := by
    have q := p3.symm.trans (p2.trans ((p5.cons _).trans (List.Perm.swap _ _ _)))
    exact q.cons_inv
  exact p4.trans ((p6.cons _).trans (List.Perm.swap _ _ _))
section
variable {P : Program} {B : Nat} {w0 W : World} {H H1 H2 : HB} {g1 g2 : Nat} {t1 t2 : TypeId} {b1 b2 : Bool} {S1 S1' S2 S2' : List Seg} {f : FuncId} {args : Array Value} {v : Value} {R : Ending → World → Prop}
theorem callM2 (i j : Nat) (hH : Hp B w0 W H) (hi : nthH H i = some (g1, t1, b1, S1)) (hu : updH H i S1' = some H1) (hj : nthH H1 j = some (g2, t2, b2, S2)) (hu2 : updH H1 j S2' = some H2) (ht : t1 ≠ t2)
    (h : ∀ H0, Hp B w0 W ((g1, t1, b1, S1) :: (g2, t2, b2, S2) :: H0) → (∀ W', Hp B w0 W' ((g1, t1, b1, S1') :: (g2, t2, b2, S2') :: H0) → R (.returned v) W') → Calls P f args W R) (hR : ∀ W', Hp B w0 W' H2 → R (.returned v) W') : Calls P f args W R := by
  obtain ⟨H0, p1, p2⟩ := perm2 hi hu hj hu2 ht
  exact h H0 (hH.perm p1) (fun W' h' => hR W' (h'.perm p2.symm))
end
section
variable {B : Nat} {w0 W : World} {H H' : HB} {g : Nat} {R : Ending → World → Prop} {s : ByteArray} {k : Nat} {bad : Bool} {n : Int}
theorem hNumA (i : Nat) (hH : Hp B w0 W H) (hi : nthH H i = some (g, 129, true, [.one (.string s), .one (.int .i64 (k : Int)), .one (.bool bad)])) (hu : updH H i [.one (.string s), .one (.int .i64 ((rdK s k bad (wn n 8) : Nat) : Int)), .one (.bool (rdB s k bad (wn n 8)))] = some H')
    (hs : s.size ≤ 9223372036854775807) (hk : k ≤ s.size) (hR : ∀ W', Hp B w0 W' H' → R (.returned (.int .u64 (numL (rdS s k bad (wn n 8)).data.toList : Int))) W') : Calls Tryz.prog 49 #[.pointer (some ⟨g, 0, none⟩), .int .i64 n] W R :=
  callM i hH hi hu ⟨rfl, rfl, rfl, trivial⟩ (fun hr => Num_any hr hs hk) hR
theorem hTakeA (i : Nat) (hH : Hp B w0 W H) (hi : nthH H i = some (g, 129, true, [.one (.string s), .one (.int .i64 (k : Int)), .one (.bool bad)])) (hu : updH H i [.one (.string s), .one (.int .i64 ((rdK s k bad n.toNat : Nat) : Int)), .one (.bool (rdB s k bad n.toNat))] = some H')
    (hs : s.size ≤ 9223372036854775807) (hk : k ≤ s.size) (hn : n ≤ 9223372036854775807) (hR : ∀ W', Hp B w0 W' H' → R (.returned (.string (rdS s k bad n.toNat))) W') : Calls Tryz.prog 101 #[.pointer (some ⟨g, 0, none⟩), .int .i64 n] W R :=
  callM i hH hi hu ⟨rfl, rfl, rfl, trivial⟩ (fun hr => Take_any hr hs hk hn) hR
end
theorem pA {α : Type} {l : List α} {i : Nat} {a : α} : l.toArray.setIfInBounds i a = (l.set i a).toArray := List.setIfInBounds_toArray ..
theorem pB {α : Type} {x : α} {l : List α} {n : Nat} {a : α} : (x :: l).set (n + 1) a = x :: l.set n a := rfl
theorem pC {α : Type} {x : α} {l : List α} {a : α} : (x :: l).set 0 a = a :: l := rfl
theorem pk {l : List Oper} (i : Nat) {o : Oper} {ix : List Nat} {os : List Oper} (h : l[i]? = some o) (hp : PickR l ix os) : PickR l (i :: ix) (o :: os) := PickR.cons (i := i) h hp
class HasB (H : HB) (g : Nat) (t : outParam TypeId) (b : outParam Bool) (S : outParam (List Seg)) where
  i : Nat
  h : nthH H i = some (g, t, b, S)
instance hasHere {g : Nat} {t : TypeId} {b : Bool} {S : List Seg} {H : HB} : HasB ((g, t, b, S) :: H) g t b S := ⟨0, rfl⟩
instance hasThere {r : Nat × TypeId × Bool × List Seg} {g : Nat} {t : TypeId} {b : Bool} {S : List Seg} {H : HB} [k : HasB H g t b S] : HasB (r :: H) g t b S := ⟨k.i + 1, k.h⟩
class SubI (A B : HB) : Prop where
  h : SubH A B
instance subNil {A : HB} : SubI A [] := ⟨SubH.nil⟩
instance subDrop {r : Nat × TypeId × Bool × List Seg} {A B : HB} [k : SubI A B] : SubI (r :: A) B := ⟨.drop k.h⟩
instance subKeep {r : Nat × TypeId × Bool × List Seg} {A B : HB} [k : SubI A B] : SubI (r :: A) (r :: B) := ⟨.keep k.h⟩
instance subSame {A : HB} : SubI A A := ⟨.refl⟩
def ldS (S : List Seg) (o : Nat) (e : TyE) : Option Value := match e.row with
  | true => match partS S o e.size with
    | some S2 => some (.agg (fls S2).toArray)
    | none => none
  | false => cellS S o
theorem ldS_ok {S : List Seg} {o : Nat} {e : TyE} {v : Value} (h : ldS S o e = some v) : (e.row = true ∧ ∃ S2, partS S o e.size = some S2 ∧ v = .agg (fls S2).toArray) ∨ (e.row = false ∧ cellS S o = some v) := by
  unfold ldS at h
  cases hr : e.row with
  | true =>
    rw [hr] at h
    simp only at h
    cases hp : partS S o e.size with
    | none => rw [hp] at h; simp at h
    | some S2 =>
      rw [hp] at h
      simp at h
      exact .inl ⟨rfl, S2, rfl, h.symm⟩
  | false =>
    rw [hr] at h
    exact .inr ⟨rfl, h⟩
section
variable {P : Program} {T : Tab} {B : Nat} {w0 W : World} {H : HB} {g : Nat} {t : TypeId} {b : Bool} {S : List Seg}
variable {ops : Array Oper} {rest : List Oper} {op : Oper} {a : Act} {Q : Exit → Act → World → Prop} {ty : TypeId} {x y : Operand} {o p : Nat} {A : List Value}
theorem run_ldS {i : Nat} {e : TyE} {v : Value} (hT : TabOk P T) (hH : Hp B w0 W H) (hi : nthH H i = some (g, t, b, S)) (hty : findT ty T = some e) (hc : ldS S o e = some v) : (Instr.loadAt ty (.pointer (some ⟨g, o, none⟩))).run P W = .ok v W := by
  rcases ldS_ok hc with ⟨hr, S2, h1, rfl⟩ | ⟨hr, h1⟩
  · exact run_row hT hH hi hty hr h1
  · exact run_cell hT hH hi hty hr (cellS_ok (hH.rows.mem hi).2.1 h1)
theorem iL (hT : TabOk P T) (ho : op.op = .load ty x) (hw : Region.wanted op (yielded ops a.tmps) = true) (hx : a.eval x = .pointer (some ⟨g, o, none⟩)) (hH : Hp B w0 W H) [hi : HasB H g t b S]
    (h : ∃ e v, findT ty T = some e ∧ ldS S o e = some v ∧ ∀ W', Hp B w0 W' H → wpList P ops Q rest (a.put op.dst v) W') : wpList P ops Q (op :: rest) a W := by
  obtain ⟨e, v, h1, h2, h⟩ := h
  exact wpL_load ho hw hx (run_ldS hT hH hi.h h1 h2) (h W hH)
theorem iLi (hT : TabOk P T) (ho : op.op = .load ty x) (hw : Region.wanted op (yielded ops a.tmps) = true) (hx : a.eval x = .pointer (some ⟨g, o, none⟩)) (hH : Hp B w0 W H) [hi : HasB H g t b S]
    (h : ∃ e A j v, findT ty T = some e ∧ e.row = false ∧ intoS S o = some (A, j) ∧ CellA A j v ∧ ∀ W', Hp B w0 W' H → wpList P ops Q rest (a.put op.dst v) W') : wpList P ops Q (op :: rest) a W := by
  obtain ⟨e, A, j, v, h1, h2, h3, h4, h⟩ := h
  exact hL1i hT hi.i ho hw hx hH hi.h h1 h2 h3 ⟨v, h4, h⟩
theorem iS1 (hT : TabOk P T) (ho : op.op = .store ty x y) (hw : Region.wanted op (yielded ops a.tmps) = true) (hx : a.eval x = .pointer (some ⟨g, o, none⟩)) (hH : Hp B w0 W H) [hi : HasB H g t true S]
    (h : ∃ v e S' H', one1 (a.eval y) = some v ∧ findT ty T = some e ∧ e.size = 1 ∧ setS S o v = some S' ∧ updH H hi.i S' = some H' ∧ ∀ W', Hp B w0 W' H' → wpList P ops Q rest (a.put op.dst undef) W') : wpList P ops Q (op :: rest) a W := by
  obtain ⟨v, e, S', H', h1, h2, h3, h4, h5, h⟩ := h
  exact hS1 hT hi.i ho hw hx h1 hH hi.h h2 h3 h4 h5 h
theorem iSR (hT : TabOk P T) (ho : op.op = .store ty x y) (hw : Region.wanted op (yielded ops a.tmps) = true) (hx : a.eval x = .pointer (some ⟨g, o, none⟩)) (hH : Hp B w0 W H) [hi : HasB H g t true S]
    (h : ∃ S2 e S' H', a.eval y = .agg (fls S2).toArray ∧ findT ty T = some e ∧ lenS S2 = e.size ∧ splS S o e.size S2 = some S' ∧ updH H hi.i S' = some H' ∧ okS S2 ∧ ∀ W', Hp B w0 W' H' → wpList P ops Q rest (a.put op.dst undef) W') : wpList P ops Q (op :: rest) a W := by
  obtain ⟨S2, e, S', H', h1, h2, h3, h4, h5, h6, h⟩ := h
  exact hSR hT hi.i ho hw hx h1 hH hi.h h2 h3 h4 h5 h6 h
theorem iLx (hT : TabOk P T) (ho : op.op = .load ty x) (hw : Region.wanted op (yielded ops a.tmps) = true) (hx : a.eval x = .pointer (some ⟨g, o, none⟩)) (hH : Hp B w0 W H) [hi : HasB H g t b (.many A p :: S)]
    (h : ∃ e, findT ty T = some e ∧ e.row = true ∧ ∃ k C, AtL A k (fls C) ∧ o = k ∧ lenS C = e.size ∧ okS C ∧ ∀ W', Hp B w0 W' H → wpList P ops Q rest (a.put op.dst (.agg (fls C).toArray)) W') : wpList P ops Q (op :: rest) a W := by
  obtain ⟨e, h1, h2, h⟩ := h
  exact hLx hi.i hT ho hw hx hH hi.h h1 h2 h
theorem iLx1 (hT : TabOk P T) (ho : op.op = .load ty x) (hw : Region.wanted op (yielded ops a.tmps) = true) (hx : a.eval x = .pointer (some ⟨g, o, none⟩)) (hH : Hp B w0 W H) [hi : HasB H g t b (.many A p :: S)]
    (h : ∃ e, findT ty T = some e ∧ e.row = false ∧ ∃ k v, CellA A k v ∧ o = k ∧ ∀ W', Hp B w0 W' H → wpList P ops Q rest (a.put op.dst v) W') : wpList P ops Q (op :: rest) a W := by
  obtain ⟨e, h1, h2, h⟩ := h
  exact hLx1 hi.i hT ho hw hx hH hi.h h1 h2 h
theorem qiL {K : Act → Prop} (hT : TabOk P T) (ho : op.op = .load ty x) (hx : a.eval x = .pointer (some ⟨g, o, none⟩)) [hi : HasB H g t b S]
    (h : ∃ e v, findT ty T = some e ∧ ldS S o e = some v ∧ K (a.put op.dst v)) : op.quiet P a (fun W' => ∃ y : HW B w0 H, W' = y.w) K := by
  obtain ⟨e, v, h1, h2, hk⟩ := h
  exact quiet_load ho hx (fun w hw => by obtain ⟨y, rfl⟩ := hw; exact run_ldS hT y.hp hi.h h1 h2) hk
theorem qiLi {K : Act → Prop} (hT : TabOk P T) (ho : op.op = .load ty x) (hx : a.eval x = .pointer (some ⟨g, o, none⟩)) [hi : HasB H g t b S]
    (h : ∃ e A j v, findT ty T = some e ∧ e.row = false ∧ intoS S o = some (A, j) ∧ CellA A j v ∧ K (a.put op.dst v)) : op.quiet P a (fun W' => ∃ y : HW B w0 H, W' = y.w) K := by
  obtain ⟨e, A, j, v, h1, h2, h3, h4, h⟩ := h
  exact qL1i hT hi.i ho hx hi.h h1 h2 h3 ⟨v, h4, h⟩
theorem qiLx {K : Act → Prop} (hT : TabOk P T) (ho : op.op = .load ty x) (hx : a.eval x = .pointer (some ⟨g, o, none⟩)) [hi : HasB H g t b (.many A p :: S)]
    (h : ∃ e, findT ty T = some e ∧ e.row = true ∧ ∃ k C, AtL A k (fls C) ∧ o = k ∧ lenS C = e.size ∧ okS C ∧ K (a.put op.dst (.agg (fls C).toArray))) : op.quiet P a (fun W' => ∃ y : HW B w0 H, W' = y.w) K := by
  obtain ⟨e, h1, h2, h⟩ := h
  exact qLx hi.i hT ho hx hi.h h1 h2 h
theorem qiLx1 {K : Act → Prop} (hT : TabOk P T) (ho : op.op = .load ty x) (hx : a.eval x = .pointer (some ⟨g, o, none⟩)) [hi : HasB H g t b (.many A p :: S)]
    (h : ∃ e, findT ty T = some e ∧ e.row = false ∧ ∃ k v, CellA A k v ∧ o = k ∧ K (a.put op.dst v)) : op.quiet P a (fun W' => ∃ y : HW B w0 H, W' = y.w) K := by
  obtain ⟨e, h1, h2, h⟩ := h
  exact qLx1 hi.i hT ho hx hi.h h1 h2 h
theorem iRet {fn : Func} {p : Tmp} {R : Ending → World → Prop} (h : fn.results = #[.cell p ty]) (hT : TabOk P T) (hp : a.tmps.getD p undef = .pointer (some ⟨g, 0, none⟩)) (h0 : a.defers = []) (hH : Hp B w0 W H) [hi : HasB H g t b S]
    (hx : ∃ e S2, findT ty T = some e ∧ e.row = true ∧ partS S 0 e.size = some S2 ∧ R (.returned (.agg (fls S2).toArray)) W) : bodyPost P fn R .ret a W := by
  obtain ⟨e, S2, h1, h2, h3, h4⟩ := hx
  exact retC h hT hi.i hp h0 hH hi.h h1 h2 h3 h4
theorem iRet2 {fn : Func} {p q : Tmp} {R : Ending → World → Prop} (h : fn.results = #[.cell p ty, .tmp q]) (hT : TabOk P T) (hp : a.tmps.getD p undef = .pointer (some ⟨g, 0, none⟩)) (h0 : a.defers = []) (hH : Hp B w0 W H) [hi : HasB H g t b S]
    (hx : ∃ e S2, findT ty T = some e ∧ e.row = true ∧ partS S 0 e.size = some S2 ∧ R (.returned (.tuple #[.agg (fls S2).toArray, a.tmps.getD q undef])) W) : bodyPost P fn R .ret a W := by
  obtain ⟨e, S2, h1, h2, h3, h4⟩ := hx
  exact retC2 h hT hi.i hp h0 hH hi.h h1 h2 h3 h4
end
structure Kp (Q : Prop) : Prop where
  out : Q
structure Kt {α : Type} (x : α) : Prop where
def pickO (l : List Oper) : List Nat → Option (List Oper)
  | [] => some []
  | i :: ix => match l[i]? with
    | some o => match pickO l ix with
      | some os => some (o :: os)
      | none => none
    | none => none
theorem pickR {l : List Oper} : ∀ {ix : List Nat} {os : List Oper}, pickO l ix = some os → PickR l ix os
  | [], _, h => by simp [pickO] at h; subst h; exact .nil
  | i :: ix, os, h => by
    unfold pickO at h
    split at h
    · split at h
      · rename_i h1 _ _ h2
        simp at h; subst h
        exact .cons h1 (pickR h2)
      · simp at h
    · simp at h
theorem gv {P : Program} {f : FuncId} {a : Array Value} {v : Value} {w : World} (h : ∀ w, Gives P f a w v) : Gives P f a w v := h w
section
variable {P : Program} {B : Nat} {w0 W : World} {H H0 : HB} {a : Act} {Q : Exit → Act → World → Prop} {l : List Oper} {fuel : Nat} {listed : Array Bool} {nb : List Nat} {ix : List Nat} {os : List Oper} {o : Oper} {i : Nat}
theorem hk_puresT (_ : Kt ix) (hf : Nat.ble ix.length fuel = true) (hp : pickO l ix = some os) (hs : Region.noSelect l.toArray = true) (hc : pureOk l listed ix = true) (hQ : ∀ c a v w (t : Tmp), Q (.panic c) (a.put (some t) v) w → Q (.panic c) a w)
    (h : wpQuiet P l.toArray (fun _ => True) (fun a' => WMK P l Q B w0 H0 nb (fuel - ix.length) (setAllB listed ix) a' W) os a) : WMK P l Q B w0 H0 nb fuel listed a W := by
  have := hk_pures (pickR hp) hs hc hQ h
  rwa [Nat.sub_add_cancel (Nat.le_of_ble_eq_true hf)] at this
theorem hk_loadsT (_ : Kt ix) (hf : Nat.ble ix.length fuel = true) (hp : pickO l ix = some os) (hs : Region.noSelect l.toArray = true) (hc : loadOk l nb listed ix = true) (hQ : ∀ c a v w (t : Tmp), Q (.panic c) (a.put (some t) v) w → Q (.panic c) a w) (hH : Hp B w0 W H) (hS : SubH H H0)
    (h : ∀ [Nonempty (HW B w0 H0)], wpQuiet P l.toArray (fun W' => ∃ y : HW B w0 H0, W' = y.w) (fun a' => WMK P l Q B w0 H0 nb (fuel - ix.length) (setAllB listed ix) a' W) os a) : WMK P l Q B w0 H0 nb fuel listed a W := by
  have := hk_loads (pickR hp) hs hc hQ hH hS h
  rwa [Nat.sub_add_cancel (Nat.le_of_ble_eq_true hf)] at this
theorem hk_oneT (_ : Kt i) (hf : Nat.ble 1 fuel = true) (ho : l[i]? = some o) (hr : Region.ready .any l.toArray listed = [i]) (h : wpList P l.toArray (hkQ P l Q B w0 H0 nb (nb.contains i) (fuel - 1) (listed.setIfInBounds i true)) [o] a W) : WMK P l Q B w0 H0 nb fuel listed a W := by
  have := hk_one i ho hr h
  rwa [Nat.sub_add_cancel (Nat.le_of_ble_eq_true hf)] at this
theorem hm_takesT (_ : Kt ix) (hf : Nat.ble ix.length fuel = true) (hp : pickO l ix = some os) (hs : Region.noSelect l.toArray = true) (hc : takesOk l listed ix = true) (hQ : ∀ c a v w (t : Tmp), Q (.panic c) (a.put (some t) v) w → Q (.panic c) a w) (hH : Hp B w0 W H) (hS : SubH H H0)
    (h : ∀ [Nonempty (HW B w0 H0)], wpQuiet P l.toArray (fun W' => ∃ y : HW B w0 H0, W' = y.w) (fun a' => WMS P l Q B w0 H0 (fuel - ix.length) (setAllB listed ix) a' W) os a) : WMS P l Q B w0 H0 fuel listed a W := by
  have := hm_takes (pickR hp) hs hc hQ hH hS h
  rwa [Nat.sub_add_cancel (Nat.le_of_ble_eq_true hf)] at this
theorem hm_oneT (_ : Kt i) (hf : Nat.ble 1 fuel = true) (ho : l[i]? = some o) (hr : Region.ready .any l.toArray listed = [i]) (h : wpList P l.toArray (hmQ P l Q B w0 H0 (fuel - 1) (listed.setIfInBounds i true)) [o] a W) : WMS P l Q B w0 H0 fuel listed a W := by
  have := hm_one i ho hr h
  rwa [Nat.sub_add_cancel (Nat.le_of_ble_eq_true hf)] at this
end
section
variable {P Q : Prop}
theorem st (k : Q) (h : Kp Q → P := by (intro kq0; (first | (refine iL tab_ok rfl ?_ rfl hH ?_; (focus first|exact wN rfl|exact rfl); refine ⟨_, _, rfl, rfl, ?_⟩) | (refine iLi tab_ok rfl ?_ rfl hH ?_; (focus first|exact wN rfl|exact rfl); refine ⟨_, _, _, ?_, rfl, rfl, rfl, ?_, ?_⟩; rotate_left; (focus assumption)) | (refine iS1 tab_ok rfl ?_ rfl hH ?_; (focus first|exact wN rfl|exact rfl); refine ⟨_, _, _, _, rfl, rfl, rfl, rfl, rfl, ?_⟩) | (refine iSR tab_ok rfl ?_ rfl hH ?_; (focus first|exact wN rfl|exact rfl); refine ⟨_, _, _, _, rfl, rfl, rfl, rfl, rfl, ?_, ?_⟩; (focus (repeat (first | exact trivial | assumption | exact OkA.z (by kernel_rfl) (by kernel_rfl) | refine ⟨rfl, ?_⟩ | refine ⟨?_, ?_⟩)))) | (refine hAl tab_ok rfl ?_ hH rfl ?_; (focus first|exact wN rfl|exact rfl)) | (refine hBx1 rfl ?_ rfl hH ?_; (focus first|exact wN rfl|exact rfl)) | (refine hBx rfl ?_ rfl hH ?_ ?_; (focus first|exact wN rfl|exact rfl); (focus (repeat (first | exact trivial | assumption | exact OkA.z (by kernel_rfl) (by kernel_rfl) | refine ⟨rfl, ?_⟩ | refine ⟨?_, ?_⟩)))) | (refine hBd tab_ok rfl ?_ rfl rfl rfl hH ?_; (focus first|exact wN rfl|exact rfl); refine ⟨?_, ?_, ?_⟩; rotate_left; (focus (repeat (first | exact BR.nil | refine BR.one rfl rfl rfl ?_ | (refine BR.row rfl rfl rfl rfl ?_ ?_; (focus (repeat (first | exact trivial | assumption | exact OkA.z (by kernel_rfl) (by kernel_rfl) | refine ⟨rfl, ?_⟩ | refine ⟨?_, ?_⟩)))))))) | ((with_reducible refine callH hH ?_); refine ⟨?_, ?_, ?_⟩; rotate_left; (focus (with_reducible apply gv; with_reducible assumption))) | (refine iLx tab_ok rfl ?_ rfl hH ?_; (focus first|exact wN rfl|exact rfl); refine ⟨_, rfl, rfl, ?_, ?_, ?_, ?_, ?_, ?_, ?_⟩; rotate_left 2; (focus assumption); (focus (first | rfl | (push_cast; omega) | omega | (simp; omega))); (focus (first | rfl | assumption)); (focus (repeat (first | exact trivial | assumption | exact OkA.z (by kernel_rfl) (by kernel_rfl) | refine ⟨rfl, ?_⟩ | refine ⟨?_, ?_⟩)))) | (refine iLx1 tab_ok rfl ?_ rfl hH ?_; (focus first|exact wN rfl|exact rfl); refine ⟨_, rfl, rfl, ?_, ?_, ?_, ?_, ?_⟩; rotate_left 2; (focus assumption); (focus (first | rfl | omega | (simp; omega)))) | (refine hSl tab_ok rfl ?_ rfl tabs_ok rfl rfl rfl rfl rfl hH ?_; (focus first|exact wN rfl|exact rfl); refine ⟨?_, ?_, ?_⟩; rotate_left; (focus (repeat (first | exact BR.nil | refine BR.one rfl rfl rfl ?_ | (refine BR.row rfl rfl rfl rfl ?_ ?_; (focus (repeat (first | exact trivial | assumption | exact OkA.z (by kernel_rfl) (by kernel_rfl) | refine ⟨rfl, ?_⟩ | refine ⟨?_, ?_⟩))))))))); (try simp only [Act.put, pA, pB, pC]); exact kq0.out)) : P := h ⟨k⟩
theorem rq (k : Q) (h : Kp Q → P := by (intro kq0; (with_reducible refine regQ hH (by kernel_rfl) (by kernel_rfl) ?_); intro hne; (repeat (first | (go_big_quiet_want; (first | (refine qiL tab_ok rfl rfl ?_; refine ⟨_, _, rfl, rfl, ?_⟩) | (refine qiLi tab_ok rfl rfl ?_; refine ⟨_, _, _, ?_, rfl, rfl, rfl, ?_, ?_⟩; rotate_left; (focus assumption)) | (refine qiLx tab_ok rfl rfl ?_; refine ⟨_, rfl, rfl, ?_, ?_, ?_, ?_, ?_, ?_, ?_⟩; rotate_left 2; (focus assumption); (focus (first | rfl | (push_cast; omega) | omega | (simp; omega))); (focus (first | rfl | assumption)); (focus (repeat (first | exact trivial | assumption | exact OkA.z (by kernel_rfl) (by kernel_rfl) | refine ⟨rfl, ?_⟩ | refine ⟨?_, ?_⟩)))) | (refine qiLx1 tab_ok rfl rfl ?_; refine ⟨_, rfl, rfl, ?_, ?_, ?_, ?_, ?_⟩; rotate_left 2; (focus assumption); (focus (first | rfl | omega | (simp; omega)))) | (refine qBd tab_ok rfl rfl rfl rfl ?_; refine ⟨?_, ?_, ?_⟩; rotate_left; (focus (repeat (first | exact BR.nil | refine BR.one rfl rfl rfl ?_ | (refine BR.row rfl rfl rfl rfl ?_ ?_; (focus (repeat (first | exact trivial | assumption | exact OkA.z (by kernel_rfl) (by kernel_rfl) | refine ⟨rfl, ?_⟩ | refine ⟨?_, ?_⟩))))))))); (try simp only [Act.put, pA, pB, pC]); go_big_quiet_on) | go_big_quiet_step (((with_reducible apply callQ); with_reducible apply gv; with_reducible assumption)))); refine wpQuiet_nil ?_; clear hne; exact kq0.out)) : P := h ⟨k⟩
theorem ke (k : Q) (h : Kp Q → P := by (intro kq0; refine hkQ_normal hH ?_ ?_; (focus (exact SubI.h)); (try simp only [Act.put, pA, pB, pC]); exact kq0.out)) : P := h ⟨k⟩
theorem kz (k : Q) (h : Kp Q → P := by (intro kq0; refine hkQ_break ?_; (try simp only [Act.put, pA, pB, pC]); exact kq0.out)) : P := h ⟨k⟩
theorem me (k : Q) (h : Kp Q → P := by (intro kq0; refine hmQ_normal hH ?_ ?_; (focus (exact SubI.h)); (try simp only [Act.put, pA, pB, pC]); exact kq0.out)) : P := h ⟨k⟩
theorem kt (ix : List Nat) (k : Q) (h : Kt ix → Kp Q → P := by (intro kt0 kq0; refine hk_puresT kt0 (by kernel_rfl) rfl (by kernel_rfl) (by kernel_rfl) (fun _ _ _ _ _ h => h) ?_; (repeat (first | (go_big_quiet_want; (first | (refine qiL tab_ok rfl rfl ?_; refine ⟨_, _, rfl, rfl, ?_⟩) | (refine qiLi tab_ok rfl rfl ?_; refine ⟨_, _, _, ?_, rfl, rfl, rfl, ?_, ?_⟩; rotate_left; (focus assumption)) | (refine qiLx tab_ok rfl rfl ?_; refine ⟨_, rfl, rfl, ?_, ?_, ?_, ?_, ?_, ?_, ?_⟩; rotate_left 2; (focus assumption); (focus (first | rfl | (push_cast; omega) | omega | (simp; omega))); (focus (first | rfl | assumption)); (focus (repeat (first | exact trivial | assumption | exact OkA.z (by kernel_rfl) (by kernel_rfl) | refine ⟨rfl, ?_⟩ | refine ⟨?_, ?_⟩)))) | (refine qiLx1 tab_ok rfl rfl ?_; refine ⟨_, rfl, rfl, ?_, ?_, ?_, ?_, ?_⟩; rotate_left 2; (focus assumption); (focus (first | rfl | omega | (simp; omega)))) | (refine qBd tab_ok rfl rfl rfl rfl ?_; refine ⟨?_, ?_, ?_⟩; rotate_left; (focus (repeat (first | exact BR.nil | refine BR.one rfl rfl rfl ?_ | (refine BR.row rfl rfl rfl rfl ?_ ?_; (focus (repeat (first | exact trivial | assumption | exact OkA.z (by kernel_rfl) (by kernel_rfl) | refine ⟨rfl, ?_⟩ | refine ⟨?_, ?_⟩))))))))); (try simp only [Act.put, pA, pB, pC]); go_big_quiet_on) | go_big_quiet_step (fail))); refine hk_nil ?_; exact kq0.out)) : P := h ⟨⟩ ⟨k⟩
theorem kl (ix : List Nat) (k : Q) (h : Kt ix → Kp Q → P := by (intro kt0 kq0; refine hk_loadsT kt0 (by kernel_rfl) rfl (by kernel_rfl) (by kernel_rfl) (fun _ _ _ _ _ h => h) hH ?_ ?_; (focus (exact SubI.h)); intro hne; (repeat (first | (go_big_quiet_want; (first | (refine qiL tab_ok rfl rfl ?_; refine ⟨_, _, rfl, rfl, ?_⟩) | (refine qiLi tab_ok rfl rfl ?_; refine ⟨_, _, _, ?_, rfl, rfl, rfl, ?_, ?_⟩; rotate_left; (focus assumption)) | (refine qiLx tab_ok rfl rfl ?_; refine ⟨_, rfl, rfl, ?_, ?_, ?_, ?_, ?_, ?_, ?_⟩; rotate_left 2; (focus assumption); (focus (first | rfl | (push_cast; omega) | omega | (simp; omega))); (focus (first | rfl | assumption)); (focus (repeat (first | exact trivial | assumption | exact OkA.z (by kernel_rfl) (by kernel_rfl) | refine ⟨rfl, ?_⟩ | refine ⟨?_, ?_⟩)))) | (refine qiLx1 tab_ok rfl rfl ?_; refine ⟨_, rfl, rfl, ?_, ?_, ?_, ?_, ?_⟩; rotate_left 2; (focus assumption); (focus (first | rfl | omega | (simp; omega)))) | (refine qBd tab_ok rfl rfl rfl rfl ?_; refine ⟨?_, ?_, ?_⟩; rotate_left; (focus (repeat (first | exact BR.nil | refine BR.one rfl rfl rfl ?_ | (refine BR.row rfl rfl rfl rfl ?_ ?_; (focus (repeat (first | exact trivial | assumption | exact OkA.z (by kernel_rfl) (by kernel_rfl) | refine ⟨rfl, ?_⟩ | refine ⟨?_, ?_⟩))))))))); (try simp only [Act.put, pA, pB, pC]); go_big_quiet_on) | go_big_quiet_step (fail))); refine hk_nil ?_; clear hne; exact kq0.out)) : P := h ⟨⟩ ⟨k⟩
theorem ko (i : Nat) (k : Q) (h : Kt i → Kp Q → P := by (intro kt0 kq0; refine hk_oneT kt0 (by kernel_rfl) (by rfl) (by kernel_rfl) ?_; exact kq0.out)) : P := h ⟨⟩ ⟨k⟩
theorem mtt (ix : List Nat) (k : Q) (h : Kt ix → Kp Q → P := by (intro kt0 kq0; refine hm_takesT kt0 (by kernel_rfl) rfl (by kernel_rfl) (by kernel_rfl) (fun _ _ _ _ _ h => h) hH ?_ ?_; (focus (exact SubI.h)); intro hne; (repeat (first | (go_big_quiet_want; (first | (refine qiL tab_ok rfl rfl ?_; refine ⟨_, _, rfl, rfl, ?_⟩) | (refine qiLi tab_ok rfl rfl ?_; refine ⟨_, _, _, ?_, rfl, rfl, rfl, ?_, ?_⟩; rotate_left; (focus assumption)) | (refine qiLx tab_ok rfl rfl ?_; refine ⟨_, rfl, rfl, ?_, ?_, ?_, ?_, ?_, ?_, ?_⟩; rotate_left 2; (focus assumption); (focus (first | rfl | (push_cast; omega) | omega | (simp; omega))); (focus (first | rfl | assumption)); (focus (repeat (first | exact trivial | assumption | exact OkA.z (by kernel_rfl) (by kernel_rfl) | refine ⟨rfl, ?_⟩ | refine ⟨?_, ?_⟩)))) | (refine qiLx1 tab_ok rfl rfl ?_; refine ⟨_, rfl, rfl, ?_, ?_, ?_, ?_, ?_⟩; rotate_left 2; (focus assumption); (focus (first | rfl | omega | (simp; omega)))) | (refine qBd tab_ok rfl rfl rfl rfl ?_; refine ⟨?_, ?_, ?_⟩; rotate_left; (focus (repeat (first | exact BR.nil | refine BR.one rfl rfl rfl ?_ | (refine BR.row rfl rfl rfl rfl ?_ ?_; (focus (repeat (first | exact trivial | assumption | exact OkA.z (by kernel_rfl) (by kernel_rfl) | refine ⟨rfl, ?_⟩ | refine ⟨?_, ?_⟩))))))))); (try simp only [Act.put, pA, pB, pC]); go_big_quiet_on) | go_big_quiet_step (fail))); refine hm_nil ?_; clear hne; exact kq0.out)) : P := h ⟨⟩ ⟨k⟩
theorem mo (i : Nat) (k : Q) (h : Kt i → Kp Q → P := by (intro kt0 kq0; refine hm_oneT kt0 (by kernel_rfl) (by rfl) (by kernel_rfl) ?_; exact kq0.out)) : P := h ⟨⟩ ⟨k⟩
end
end Go.Proofs.YtdnehjhijmeihaaGreat
