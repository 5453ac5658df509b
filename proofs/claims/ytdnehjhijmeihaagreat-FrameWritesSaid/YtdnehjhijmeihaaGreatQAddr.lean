/-
  Joined texts: Addr, Ag.
-/
import Derived.Test.YtdnehjhijmeihaaGreatRows
import Derived.Test.YtdnehjhijmeihaaGreatQMem
import Derived.Test.YtdnehjhijmeihaaGreatQSl
import Derived.Stop.BytesEq
import Derived.Lib.LazyBuf
namespace Go.Proofs.YtdnehjhijmeihaaGreat
open Go.ChangeShapes Go.WideShapes Go.ChangeAt Go.RowKit
set_option linter.unusedVariables false
set_option linter.unusedSimpArgs false
set_option maxRecDepth 20000
attribute [local irreducible] wpList
def addrL (v : Bool) (l : List UInt8) : List Value := .bool v :: l.map byteV
def addrV (v : Bool) (l : List UInt8) : Array Value := (addrL v l).toArray
section
variable {v : Bool} {l : List UInt8}
theorem addrL_length (h : l.length = 16) : (addrL v l).length = 17 := by simp [addrL, h]
theorem addrV_size (h : l.length = 16) : (addrV v l).size = 17 := by simp [addrV, addrL, h]
theorem addrV_list : (addrV v l).toList = addrL v l := rfl
theorem addrV_0 : (addrV v l)[0]? = some (.bool v) := rfl
theorem addrV_at {i : Nat} {b : UInt8} (hb : l[i]? = some b) : (addrV v l)[1 + i]? = some (byteV b) := by
  rw [← Array.getElem?_toList, addrV_list, addrL, Nat.add_comm, List.getElem?_cons_succ, List.getElem?_map, hb]; rfl
theorem addrV_one : (addrV v l).all (·.oneCell') = true := by
  refine oneL _ ?_
  simp [addrL, List.all_map]
  exact ⟨rfl, fun _ _ => rfl⟩
theorem addr_lits (h : l.length = 16) : Tryz.prog.keyLits 8 25 (addrL v l) = some (Lit.bool v :: l.map fun b => Lit.int .u8 (b.toNat : Int)) := by
  have hb : Tryz.prog.keyLits 7 23 (l.map byteV) = some (l.map fun b => Lit.int .u8 (b.toNat : Int)) := lits_bytes (d := 5) (n := 16) Tryz.underlying23 (by kernel_rfl) Tryz.underlying5 (by kernel_rfl) h
  have h1 : Tryz.prog.keyLits 7 4 [.bool v] = some [.bool v] := lits_bool Tryz.underlying4
  have c1 : Tryz.prog.cellsOf 4 = 1 := by kernel_rfl
  have c2 : Tryz.prog.cellsOf 23 = 16 := by kernel_rfl
  have h3 := lits_struct (d := 7) (cs := addrL v l) (ls := [[.bool v], l.map fun b => Lit.int .u8 (b.toNat : Int)]) Tryz.underlying25 (by rw [addrL_length h]; kernel_rfl) (by kernel_rfl) (by
    simp only [List.mapM_cons, List.mapM_nil, addrL, List.drop_zero, c1, c2, List.take_succ_cons, List.take_zero, h1, List.drop_succ_cons]
    rw [List.take_of_length_le (by simp [h]), hb]
    rfl)
  rw [h3]
  simp
theorem addrV_formed (h : l.length = 16) : (Value.agg (addrV v l)).formed Tryz.prog 25 = true := by
  unfold Value.formed
  rw [Tryz.underlying25]
  simp only [addrV_size h, beq_iff_eq]
  kernel_rfl
theorem lit_inj : ∀ {l m : List UInt8}, (l.map fun b => Lit.int .u8 (b.toNat : Int)) = m.map (fun b => Lit.int .u8 (b.toNat : Int)) → l = m
  | [], [], _ => rfl
  | [], _ :: _, h => by simp at h
  | _ :: _, [], h => by simp at h
  | a :: l, b :: m, h => by
    rw [List.map_cons, List.map_cons] at h
    injection h with h1 h2
    injection h1 with h3 h4
    rw [lit_inj h2, UInt8.toNat.inj (show a.toNat = b.toNat by omega)]
theorem addr_eql {u : Bool} {m : List UInt8} (h : l.length = 16) (k : m.length = 16) (w : World) : (binOp .eql 25 (.agg (addrV v l)) (.agg (addrV u m))).run Tryz.prog w = .ok (.bool (v == u && l == m)) w := by
  refine eql_cells (by kernel_rfl) (addrV_formed h) (addrV_formed k) (addr_lits h) (addr_lits k) _ ?_ w
  constructor
  · intro e
    simp at e
    rw [e.1, e.2]
  · intro e
    injection e with e1 e2
    injection e1 with e1
    rw [e1, lit_inj e2]
    simp
end
theorem sixteen {l : List UInt8} (h : l.length = 16) : ∃ a0 a1 a2 a3 a4 a5 a6 a7 a8 a9 a10 a11 a12 a13 a14 a15, l = [a0, a1, a2, a3, a4, a5, a6, a7, a8, a9, a10, a11, a12, a13, a14, a15] := by
  match l, h with
  | [a0, a1, a2, a3, a4, a5, a6, a7, a8, a9, a10, a11, a12, a13, a14, a15], _ => exact ⟨_, _, _, _, _, _, _, _, _, _, _, _, _, _, _, _, rfl⟩
def zero16 : List UInt8 := List.replicate 16 0
def bytesA (v : Bool) (l : List UInt8) : List UInt8 := if v then l else l.take 4
def goodA (v : Bool) (l : List UInt8) : Bool := v || l.drop 4 == List.replicate 12 0
def adOf (s : ByteArray) : List UInt8 := s.data.toList ++ List.replicate (16 - s.size) 0
theorem adOf_length {s : ByteArray} (h : s.size ≤ 16) : (adOf s).length = 16 := by simp [adOf, size_toList]; have := size_toList s; simp at this; omega
theorem size_u8A (w : World) : (sizeOf 5).run Tryz.prog w = .ok 1 w := by
  have h : (Tryz.prog.info? 5).map (·.size) = some 1 := by kernel_rfl
  cases hq : Tryz.prog.info? 5 with
  | none => simp [hq] at h
  | some i =>
    have hs : i.size = 1 := by simpa [hq] using h
    simp [sizeOf, typeInfo, hq, hs]
theorem wpList_copyB {P : Program} {w : World} {ops : Array Oper} {rest : List Oper} {op : Oper} {a : Act} {Q : Exit → Act → World → Prop} (hg : op.guard = none) {d x : Operand} {dT sT : TypeId}
    (hop : op.op = Op.call { callee := Callee.builtin Builtin.copy, args := #[d, x], argTypes := #[dT, sT] }) {elem : TypeId} (hu : P.underlying dT = some (.slice elem)) (hz : ∀ w, (Go.sizeOf elem).run P w = .ok 1 w)
    {b off dLen dCap : Nat} (hd : a.eval d = .slice (some ⟨b, off, none⟩) dLen dCap) {t : ByteArray} (hx : a.eval x = .string t) (hle : t.size ≤ dLen)
    (hc : ∀ j, j < t.size → (w.cell? ⟨b, off + j, none⟩).isSome = true) (hf : ∀ j, j < t.size → w.frozen? ⟨b, off + j, none⟩ = false)
    (hK : wpList P ops Q rest (a.put op.dst (goInt t.size)) (w.setCells b off (t.data.toList.map fun x => Value.int .u8 (x.toNat : Int)))) : wpList P ops Q (op :: rest) a w := by
  have hw : Region.wanted op (yielded ops a.tmps) = true := by simp [Region.wanted, hg]
  have h := step_copy_string (P := P) (ops := ops) (Q := Q) (E := True) (K := fun a w => wpList P ops Q rest a w) hg d x dT sT hop elem hu hz b off dLen dCap hd t hx hle hc hf hK
  rw [if_pos hw] at h
  unfold wpList
  rw [if_pos hw]
  exact Or.inl h
def hdA (l : List UInt8) : Nat := (l[0]?.getD 0).toNat
theorem hdA_lt (l : List UInt8) : hdA l < 256 := (l[0]?.getD 0).toNat_lt
def groupA (v : Bool) (l : List UInt8) : Bool := if v then hdA l == 255 else hdA l / 16 == 14
def zeroA (l : List UInt8) : Bool := l == zero16
theorem addrL_one {v : Bool} {l : List UInt8} : ∀ x ∈ addrL v l, x.oneCell' = true := List.all_eq_true.1 (by have h := addrV_one (v := v) (l := l); unfold addrV at h; simpa using h)
theorem okA_addr {v : Bool} {l : List UInt8} (h : l.length = 16) : OkA (addrL v l) 17 := ⟨addrL_length h, addrL_one⟩
theorem zaddr : addrL false zero16 = zeroL Tryz.prog 25 := by kernel_rfl
theorem okA_bytes {l : List UInt8} {n : Nat} (h : l.length = n) : OkA (l.map byteV) n := ⟨by simpa using h, fun v hv => by obtain ⟨b, _, rfl⟩ := List.mem_map.1 hv; rfl⟩
theorem addr_segs (v : Bool) (l : List UInt8) : addrV v l = (fls [.one (.bool v), .many (l.map byteV) 16]).toArray := by simp [addrV, addrL, fls]
theorem addr_segs1 (v : Bool) (l : List UInt8) : (fls [.many (addrL v l) 17]).toArray = addrV v l := by simp [addrV, fls]
theorem hdA_cell {l : List UInt8} (h : l.length = 16) : CellA (l.map byteV) 0 (.int .u8 (hdA l : Int)) := by
  obtain ⟨a0, a1, a2, a3, a4, a5, a6, a7, a8, a9, a10, a11, a12, a13, a14, a15, rfl⟩ := sixteen h
  rfl
theorem cut_size2 (b : ByteArray) (i m : Nat) : (b.extract i m).size ≤ m - i := by rw [← size_toList, toList_extract, List.length_take]; omega
theorem cut_size (b : ByteArray) (m : Nat) : (b.extract 0 m).size ≤ m := by rw [← size_toList, toList_extract, List.length_take]; omega
theorem extract_size {s : ByteArray} {i j : Nat} (h : j ≤ s.size) (h2 : i ≤ j) : (s.extract i j).size = j - i := by
  rw [← size_toList, toList_extract, List.length_take, List.length_drop, size_toList]; omega
section
variable {P : Program} {T : Tab} {B : Nat} {w0 W : World} {H H' : HB} {g : Nat} {t ty ty' el : TypeId} {e : TyE} {b b1 : Bool} {S S1 S1' : List Seg} {t1 : TypeId} {g1 : Nat} {H1 : HB} {f : FuncId} {args : Array Value} {R : Ending → World → Prop}
variable {ops : Array Oper} {rest : List Oper} {op : Oper} {a : Act} {Q : Exit → Act → World → Prop} {x s y : Operand} {n c o p : Nat} {v : ByteArray} {rv u z : Value} {A : List Value}
theorem callM1 (i : Nat) (hH : Hp B w0 W H) (hi : nthH H i = some (g1, t1, b1, S1)) (hu : updH H i S1' = some H1)
    (h : ∀ H0, Hp B w0 W ((g1, t1, b1, S1) :: H0) → (∀ W', Hp B w0 W' ((g1, t1, b1, S1') :: H0) → R (.returned rv) W') → Calls P f args W R) (hR : ∀ W', Hp B w0 W' H1 → R (.returned rv) W') : Calls P f args W R :=
  h _ (hH.perm (nthH_perm hi)) (fun W' h' => hR W' (h'.perm (updH_perm hi hu).symm))
theorem upd_ex : ∀ {H : HB} {i : Nat} {r}, nthH H i = some r → ∀ S', ∃ H', updH H i S' = some H'
  | [], _, _, h, _ => by simp [nthH] at h
  | r :: H, 0, _, _, S' => ⟨_, rfl⟩
  | r :: H, i + 1, _, h, S' => by
    obtain ⟨H', h⟩ := upd_ex (H := H) (i := i) (by simpa [nthH] using h) S'
    exact ⟨r :: H', by simp only [updH]; rw [h]⟩
theorem splice_mid {pre old post new : List Value} (h : old.length = new.length) : splice (pre ++ (old ++ post)).toArray pre.length new = (pre ++ (new ++ post)).toArray := by
  unfold splice
  congr 1
  show (pre ++ (old ++ post)).take pre.length ++ (new ++ (pre ++ (old ++ post)).drop (pre.length + new.length)) = _
  rw [← h]
  simp
theorem Hp.mid {i : Nat} (hH : Hp B w0 W H) (hi : nthH H i = some (g, t, true, S)) {pre old post new : List Value} (hf : fls S = pre ++ (old ++ post)) (hl : old.length = new.length) {S' : List Seg} (hS' : okS S') (hf' : fls S' = pre ++ (new ++ post)) {H' : HB} (hu : updH H i S' = some H') : Hp B w0 (W.setCells g pre.length new) H' := by
  obtain ⟨hr1, hS, hB⟩ := hH.rows.mem hi
  refine hH.upd hi hu hS' ?_ (gb_setCells (World.grownBy.refl W _) _ _)
  rw [hf] at hr1
  have h2 := hr1.setAt (o := pre.length) (vs := new) (by rw [List.size_toArray]; simp only [List.length_append]; omega)
  rw [splice_mid hl] at h2
  rw [hf']
  exact h2
theorem hCpS (i : Nat) (hgd : op.guard = none) (ho : op.op = .call { callee := .builtin .copy, args := #[s, x], argTypes := #[ty, ty'] }) (hu : P.underlying ty = some (.slice el)) (hz : ∀ w, (sizeOf el).run P w = .ok 1 w)
    (hs : a.eval s = .slice (some ⟨g, o, none⟩) n c) (hx : a.eval x = .string v) (hle : v.size ≤ n) (hH : Hp B w0 W H) (hi : nthH H i = some (g, t, true, S))
    (h : ∃ pre old post S', fls S = pre ++ (old ++ post) ∧ pre.length = o ∧ old.length = v.size ∧ okS S' ∧ fls S' = pre ++ (v.data.toList.map byteV ++ post) ∧
      ∀ W' H', updH H i S' = some H' → Hp B w0 W' H' → wpList P ops Q rest (a.put op.dst (goInt v.size)) W') : wpList P ops Q (op :: rest) a W := by
  obtain ⟨pre, old, post, S', hf, hp, ho2, hS', hf', h⟩ := h
  subst hp
  obtain ⟨hr1, hS, hB⟩ := hH.rows.mem hi
  obtain ⟨H', hu'⟩ := upd_ex hi S'
  have hl : (v.data.toList.map byteV).length = v.size := by rw [List.length_map, size_toList]
  refine wpList_copyB hgd ho hu hz hs hx hle (fun j hj => by
      rw [hr1.cell, List.getElem?_toArray, hf, List.getElem?_append_right (by omega), Nat.add_sub_cancel_left, List.getElem?_append_left (by omega), List.getElem?_eq_getElem (by omega)]; rfl) (fun j hj => hr1.frozen _) ?_
  exact h _ H' hu' (hH.mid hi hf (by omega) hS' hf' hu')
theorem hSx1Z (hT : TabOk P T) (i : Nat) (ho : op.op = .store ty x y) (hw : Region.wanted op (yielded ops a.tmps) = true) (hx : a.eval x = .pointer (some ⟨g, o, none⟩)) (hy : one1 (a.eval y) = some z) (hH : Hp B w0 W H) (hi : nthH H i = some (g, t, true, .one u :: .many A p :: S))
    (hty : findT ty T = some e) (hr : e.size = 1) (h : 1 ≤ o ∧ o - 1 < p ∧ ∀ W' H', OkA (A.set (o - 1) z) p → updH H i (.one u :: .many (A.set (o - 1) z) p :: S) = some H' → Hp B w0 W' H' → wpList P ops Q rest (a.put op.dst undef) W') : wpList P ops Q (op :: rest) a W := by
  obtain ⟨h0, hk, h⟩ := h
  obtain ⟨k, rfl⟩ : ∃ k, o = k + 1 := ⟨o - 1, by omega⟩
  rw [Nat.add_sub_cancel] at *
  obtain ⟨hy, h1⟩ := one1_ok hy
  obtain ⟨hr1, hS, _⟩ := hH.rows.mem hi
  have hA : OkA A p := hS.2.1
  have hlt : k < A.length := by rw [hA.1]; exact hk
  have hlt2 : k + 1 < (fls (.one u :: .many A p :: S)).length := by simp [fls]; omega
  obtain ⟨H', hu⟩   := upd_ex hi (.one u :: .many (A.set k z) p :: S)
  have hok : OkA (A.set k z) p := ⟨by rw [List.length_set]; exact hA.1, fun q hq => by
    rcases List.mem_or_eq_of_mem_set hq with h | rfl
    · exact hA.2 q h
    · exact h1⟩
  have hl := run_store1 (P := P) (W := W) (by rw [(hT.find hty).size, hr]) (g := g) (o := k + 1) h1 (by rw [hr1.cell, List.getElem?_toArray, List.getElem?_eq_getElem hlt2]; rfl) (hr1.frozen (k + 1))
  unfold wpList
  rw [if_pos hw]
  refine Or.inl ?_
  unfold Oper.wp execOp
  simp only [ho, hx, hy, Sem.run_bind, hl, Result.andThen_ok, Sem.run_pure]
  refine h _ H' hok hu (hH.upd hi hu ⟨hS.1, hok, hS.2.2⟩ ?_ (gb_set (World.grownBy.refl W _) (k + 1) z))
  have := hr1.set (k + 1) z
  rw [List.setIfInBounds_toArray] at this
  rwa [show (fls (.one u :: .many A p :: S)).set (k + 1) z = fls (.one u :: .many (A.set k z) p :: S) by simp only [fls, List.set_cons_succ]; rw [List.set_append_left _ _ hlt]] at this
theorem hStrO (i : Nat) {src dst el : TypeId} {len cap : Nat} {pre : List Value} {l : List UInt8} (hs : P.underlying src = some (.slice el)) (he : P.underlying el = some (.int .u8)) (hd : P.underlying dst = some .string) (ho : op.op = .convert src dst x) (hw : Region.wanted op (yielded ops a.tmps) = true)
    (hx : a.eval x = .slice (some ⟨g, o, none⟩) len cap) (hH : Hp B w0 W H) (hi : nthH H i = some (g, t, b, S)) {post : List Value} (hS : fls S = pre ++ (l.map byteV ++ post)) (h0 : o = pre.length) (hl : l.length = len)
    (h : ∀ W', Hp B w0 W' H → wpList P ops Q rest (a.put op.dst (.string (str l))) W') : wpList P ops Q (op :: rest) a W := by
  unfold wpList
  rw [if_pos hw]
  refine Or.inl ?_
  have hr := (hH.rows.mem hi).1
  have hl2 : (convert src dst (.slice (some ⟨g, o, none⟩) len cap)).run P W = .ok (.string (str l)) W := by
    subst h0
    refine run_str_of hs he hd hl (fun k b hb => ?_)
    rw [hr.cell, List.getElem?_toArray, hS, List.getElem?_append_right (by omega), Nat.add_sub_cancel_left, List.getElem?_append_left (by simp; exact (List.getElem?_eq_some_iff.1 hb).1), List.getElem?_map, hb]
    rfl
  unfold Oper.wp execOp
  simp only [ho, hx, Sem.run_bind, hl2, Result.andThen_ok, Sem.run_pure]
  exact h W hH
end
section
variable {w : World} {v : Bool} {l : List UInt8}
theorem cellB {l : List UInt8} {i : Nat} {b : UInt8} (h : l[i]? = some b) : CellA (l.map byteV) i (.int .u8 (b.toNat : Int)) := by
  unfold CellA; rw [List.getElem?_map, h]; rfl
theorem cellC {v : Bool} {l : List UInt8} {i : Nat} {b : UInt8} (h : l[i]? = some b) : CellA (addrL v l) (1 + i) (.int .u8 (b.toNat : Int)) := by
  unfold CellA addrL; rw [Nat.add_comm, List.getElem?_cons_succ, List.getElem?_map, h]; rfl
theorem aIp4_any {a b c d : UInt8} : Gives Tryz.prog 120 #[.int .u8 (a.toNat : Int), .int .u8 (b.toNat : Int), .int .u8 (c.toNat : Int), .int .u8 (d.toNat : Int)] w (.agg (addrV false ([a, b, c, d] ++ List.replicate 12 0))) := by
  refine Gives.of ?_
  have hH := Hp.refl w
  go_enter Tryz.func120, Tryz.ntmps120
  go_wp2_with (refine st ?_; clear hH; first | intro W g hH | intro W hH)
  (refine iRet Tryz.results120 tab_ok rfl rfl hH ?_; refine ⟨_, _, rfl, rfl, rfl, ?_⟩)
  exact ⟨rfl, hH.below⟩
theorem aGood_any (h : l.length = 16) : Gives Tryz.prog 71 #[.agg (addrV v l)] w (.bool (goodA v l)) := by
  refine Gives.of ?_
  have hH := Hp.refl w
  have oA := okA_bytes h
  cases v
  · obtain ⟨a0, a1, a2, a3, l4, rfl⟩ : ∃ a0 a1 a2 a3 l4, l = [a0, a1, a2, a3] ++ l4 := by
      obtain ⟨a0, a1, a2, a3, a4, a5, a6, a7, a8, a9, a10, a11, a12, a13, a14, a15, rfl⟩ := sixteen h
      exact ⟨a0, a1, a2, a3, [a4, a5, a6, a7, a8, a9, a10, a11, a12, a13, a14, a15], rfl⟩
    have c0 := cellB (l := [a0, a1, a2, a3] ++ l4) (i := 0) (b := a0) rfl
    have c1 := cellB (l := [a0, a1, a2, a3] ++ l4) (i := 1) (b := a1) rfl
    have c2 := cellB (l := [a0, a1, a2, a3] ++ l4) (i := 2) (b := a2) rfl
    have c3 := cellB (l := [a0, a1, a2, a3] ++ l4) (i := 3) (b := a3) rfl
    have he := fun w => addr_eql (v := false) (u := false) (l := [a0, a1, a2, a3] ++ l4) (m := [a0, a1, a2, a3] ++ List.replicate 12 0) h (by rfl) w
    have hg := Lib.hid (show goodA false ([a0, a1, a2, a3] ++ l4) = (false == false && ([a0, a1, a2, a3] ++ l4 == [a0, a1, a2, a3] ++ List.replicate 12 0)) by simp [goodA, Bool.eq_iff_iff])
    have hi : ∀ w, Gives Tryz.prog 120 #[.int .u8 (a0.toNat : Int), .int .u8 (a1.toNat : Int), .int .u8 (a2.toNat : Int), .int .u8 (a3.toNat : Int)] w (.agg (addrV false ([a0, a1, a2, a3] ++ List.replicate 12 0))) := fun w => aIp4_any
    generalize (false == false && ([a0, a1, a2, a3] ++ l4 == [a0, a1, a2, a3] ++ List.replicate 12 0)) = r at *
    generalize addrV false ([a0, a1, a2, a3] ++ List.replicate 12 0) = B at *
    rw [addr_segs] at *
    generalize ([a0, a1, a2, a3] ++ l4).map byteV = A at *
    rw [hg.out]
    go_enter Tryz.func71, Tryz.ntmps71
    go_wp2_with (refine st ?_; clear hH; first | intro W g hH | intro W hH)
    (refine rq ?_; clear hH; intro W hH)
    go_wp2_with (refine st ?_; clear hH; first | intro W g hH | intro W hH)
    go_ret
    exact ⟨rfl, hH.below⟩
  · rw [addr_segs]
    generalize l.map byteV = A at *
    go_enter Tryz.func71, Tryz.ntmps71
    go_wp2_with (refine st ?_; clear hH; first | intro W g hH | intro W hH)
    (refine rq ?_; clear hH; intro W hH)
    go_wp2_with (refine st ?_; clear hH; first | intro W g hH | intro W hH)
    go_ret
    exact ⟨rfl, hH.below⟩
theorem abytes_any (h : l.length = 16) : Gives Tryz.prog 177 #[.agg (addrV v l)] w (.string (str (bytesA v l))) := by
  refine Gives.of ?_
  have hH := Hp.refl w
  have oA := okA_bytes h
  have hl : (bytesA v l).length = if v then 16 else 4 := by unfold bytesA; cases v <;> simp [h]
  have hs := Lib.hid (show l.map byteV = (bytesA v l).map byteV ++ (l.drop (if v then 16 else 4)).map byteV by
    unfold bytesA; cases v <;> simp [← List.map_append] <;> omega)
  rw [addr_segs]
  generalize bytesA v l = m at *
  generalize (l.drop (if v then 16 else 4)).map byteV = D at *
  generalize l.map byteV = A at *
  have hs2 : ∀ b, fls [.one b, .many A 16] = [b] ++ (m.map byteV ++ D) := fun b => by simp [fls, hs.out]
  cases v
  all_goals simp only [if_true, Bool.false_eq_true, if_false] at hl
  all_goals go_enter Tryz.func177, Tryz.ntmps177
  all_goals go_wp2_with (first | ((refine hStrO 0 Tryz.underlying114 Tryz.underlying5 Tryz.underlying9 rfl ?_ rfl hH rfl (hs2 _) rfl hl ?_; (focus first|exact wN rfl|exact rfl); (clear hH; (first | intro W g hH | intro W hH); (try simp only [Act.put, pA, pB, pC])))) | (refine st ?_; clear hH; first | intro W g hH | intro W hH))
  all_goals go_ret
  all_goals exact ⟨rfl, hH.below⟩
theorem aBytes_any (h : l.length = 16) : Gives Tryz.prog 132 #[.agg (addrV v l)] w (.string (str (bytesA v l))) := by
  refine Gives.of ?_
  have hH := Hp.refl w
  have oA := okA_bytes h
  have hb : ∀ w, Gives Tryz.prog 177 #[.agg (addrV v l)] w (.string (str (bytesA v l))) := fun w => abytes_any h
  rw [addr_segs] at *
  generalize l.map byteV = A at *
  go_enter Tryz.func132, Tryz.ntmps132
  go_wp2_with (refine st ?_; clear hH; first | intro W g hH | intro W hH)
  go_ret
  exact ⟨rfl, hH.below⟩
theorem agroup_any (h : l.length = 16) : Gives Tryz.prog 55 #[.agg (addrV v l)] w (.bool (groupA v l)) := by
  refine Gives.of ?_
  have hH := Hp.refl w
  have oA := okA_bytes h
  have cA := hdA_cell h
  have hl := hdA_lt l
  rw [addr_segs]
  unfold groupA
  generalize l.map byteV = A at *
  generalize hdA l = x at *
  have e : ((x : Int) / 16 == 14) = (x / 16 == 14) := by rw [Bool.eq_iff_iff]; simp; omega
  have e2 : ((x : Int) == 255) = (x == 255) := by rw [Bool.eq_iff_iff]; simp; omega
  cases v
  all_goals go_enter Tryz.func55, Tryz.ntmps55
  all_goals go_wp2_with (refine st ?_; clear hH; first | intro W g hH | intro W hH)
  all_goals go_ret
  all_goals exact ⟨by simp [e, e2], hH.below⟩
theorem aGroup_any (h : l.length = 16) : Gives Tryz.prog 19 #[.agg (addrV v l)] w (.bool (groupA v l)) := by
  refine Gives.of ?_
  have hH := Hp.refl w
  have hg : ∀ w, Gives Tryz.prog 55 #[.agg (addrV v l)] w (.bool (groupA v l)) := fun w => agroup_any h
  have oA := okA_bytes h
  rw [addr_segs] at *
  generalize l.map byteV = A at *
  generalize groupA v l = x at *
  go_enter Tryz.func19, Tryz.ntmps19
  go_wp2_with (refine st ?_; clear hH; first | intro W g hH | intro W hH)
  go_ret
  exact ⟨rfl, hH.below⟩
theorem eqBytes16 {xs ys : List UInt8} (hx : xs.length = 16) (hy : ys.length = 16) (w : World) : (binOp .eql 23 (.agg (xs.map byteV).toArray) (.agg (ys.map byteV).toArray)).run Tryz.prog w = .ok (.bool (xs == ys)) w := by
  have h : (Tryz.prog.info? 5).map (·.size) = some 1 := by kernel_rfl
  have hsz : ∀ w, (sizeOf 5).run Tryz.prog w = .ok 1 w := fun w => by
    cases hq : Tryz.prog.info? 5 with
    | none => simp [hq] at h
    | some i =>
      have hs : i.size = 1 := by simpa [hq] using h
      simp [sizeOf, typeInfo, hq, hs]
  have e1 := run_equalIn_bytes (P := Tryz.prog) w 9998 _ _ 16 Tryz.underlying23 Tryz.underlying5 hsz xs ys hx hy
  have hc : (fun b : UInt8 => byteV b) = Extern.Stop.cell := rfl
  simp only [hc] at *
  simp only [binOp, Sem.run_bind]
  simp [go_sem]
  unfold Op.equal
  have e2 : (Op.equalIn Op.maxDepth 23 (.agg (xs.map Extern.Stop.cell).toArray) (.agg (ys.map Extern.Stop.cell).toArray)).run Tryz.prog w = .ok (xs == ys) w := e1
  have hc2 : (byteV : UInt8 → Value) = Extern.Stop.cell := rfl
  try rw [hc2]
  rw [e2]
  rfl
theorem aZero_any (h : l.length = 16) : Gives Tryz.prog 74 #[.agg (addrV v l)] w (.bool (zeroA l)) := by
  refine Gives.of ?_
  have hH := Hp.refl w
  have oA := okA_bytes h
  have he : ∀ w, (binOp .eql 23 (.agg (fls [.many (l.map byteV) 16]).toArray) (.agg (fls (List.replicate 16 (.one (.int .u8 0)))).toArray)).run Tryz.prog w = .ok (.bool (zeroA l)) w := fun w => by
    have := eqBytes16 (xs := l) (ys := zero16) h rfl w
    rwa [show (l.map byteV) = fls [.many (l.map byteV) 16] by simp [fls]] at this
  rw [addr_segs]
  generalize l.map byteV = A at *
  generalize zeroA l = x at *
  simp only [List.replicate_succ, List.replicate_zero] at he
  go_enter Tryz.func74, Tryz.ntmps74
  go_wp2_with (refine st ?_; clear hH; first | intro W g hH | intro W hH)
  go_ret
  exact ⟨rfl, hH.below⟩
theorem raGroup_any (h : l.length = 16) : Gives Tryz.prog 25 #[.agg (addrV v l)] w (.bool (groupA v l)) := by
  refine Gives.of ?_
  have hH := Hp.refl w
  have oA := okA_bytes h
  have cA := hdA_cell h
  have hl := hdA_lt l
  rw [addr_segs]
  unfold groupA
  generalize l.map byteV = A at *
  generalize hdA l = x at *
  rcases (show x < 224 ∨ (224 ≤ x ∧ x ≤ 239) ∨ (240 ≤ x ∧ x < 255) ∨ x = 255 by omega) with h1 | ⟨h1, h2⟩ | ⟨h1, h2⟩ | h1
  all_goals have d1 : decide (224 ≤ (x : Int)) = decide (224 ≤ x) := by rw [Bool.eq_iff_iff]; simp; omega
  all_goals have d2 : decide ((x : Int) ≤ 239) = decide (x ≤ 239) := by rw [Bool.eq_iff_iff]; simp; omega
  all_goals have d3 : ((x : Int) == 255) = decide (x = 255) := by rw [Bool.eq_iff_iff]; simp; omega
  all_goals have d4 := Lib.hid (show (x / 16 == 14) = decide (224 ≤ x ∧ x ≤ 239) by rw [Bool.eq_iff_iff]; simp; omega)
  all_goals have d5 := Lib.hid (show (x == 255) = decide (x = 255) by rw [Bool.eq_iff_iff]; simp)
  all_goals simp only [show decide (224 ≤ x) = _ by first | exact decide_eq_true (by omega) | exact decide_eq_false (by omega), show decide (x ≤ 239) = _ by first | exact decide_eq_true (by omega) | exact decide_eq_false (by omega), show decide (x = 255) = _ by first | exact decide_eq_true (by omega) | exact decide_eq_false (by omega)] at d1 d2 d3 d5
  all_goals cases v
  all_goals go_enter Tryz.func25, Tryz.ntmps25
  all_goals go_wp2_with (refine st ?_; clear hH; first | intro W g hH | intro W hH)
  all_goals go_ret
  all_goals exact ⟨by simp [d4.out, d5.out] <;> omega, hH.below⟩
theorem raGood_any (h : l.length = 16) : Gives Tryz.prog 37 #[.agg (addrV v l)] w (.bool (goodA v l)) := by
  refine Gives.of ?_
  have hH := Hp.refl w
  have oA := okA_addr (v := v) h
  have c0 : CellA (addrL v l) 0 (.bool v) := rfl
  rw [← addr_segs1]
  have HC := Lib.hid (fun i b (hb : l[i]? = some b) => cellC (v := v) hb)
  generalize addrL v l = A at *
  go_enter Tryz.func37, Tryz.ntmps37
  go_wp2_with (refine st ?_; clear hH; first | intro W g hH | intro W hH)
  go_loopw [3] (fun i wr => ∃ k : Nat, 4 ≤ k ∧ k ≤ 16 ∧ i = .int .i64 k ∧ (v = false → ∀ j, 4 ≤ j → j < k → l[j]? = some 0) ∧ Hp w.heap.size w wr [(g, 25, true, [.many A 17])]) (fun i _ => 16 - (intOf i).toNat)
  case atStart => exact ⟨4, by omega, by omega, rfl, fun _ j _ _ => by omega, hH⟩
  case round =>
    clear hH
    obtain ⟨k, hk4, hk, rfl, hall, hH⟩ := hrel
    have HALL := Lib.hid hall
    by_cases hlt : k < 16
    · have hb : l[k]? = some l[k] := List.getElem?_eq_getElem (by omega)
      have hcell := HC.out k _ hb
      have HB := Lib.hid hb
      clear hb hall
      generalize l[k] = b at *
      cases v
      · by_cases hb0 : b = 0
        · subst hb0
          have hcell : CellA A (1 + k) (.int .u8 0) := hcell
          go_wp2_with (refine st ?_; clear hH; first | intro W g hH | intro W hH)
          refine ⟨⟨k + 1, by omega, by omega, by go_num, fun _ j h4 hj => ?_, hH⟩, by simp [intOf]; omega⟩
          by_cases hjk : j = k
          · subst hjk; exact HB.out
          · exact HALL.out rfl j h4 (by omega)
        · have hcell := hcell
          have hn : ((b.toNat : Int) != 0) = true := by
            have : b.toNat ≠ 0 := fun e => hb0 (UInt8.toNat.inj e)
            simp; omega
          have hG := Lib.hid (show goodA false l = false by
            unfold goodA
            rw [Bool.false_or, beq_eq_false_iff_ne]
            intro e
            have h1 : (l.drop 4)[k - 4]? = some b := by rw [List.getElem?_drop, show 4 + (k - 4) = k by omega]; exact HB.out
            rw [e, List.getElem?_replicate, if_pos (by omega)] at h1
            exact hb0 (by injection h1 with h1; exact h1.symm))
          go_wp2_with (refine st ?_; clear hH; first | intro W g hH | intro W hH)
          go_ret
          exact ⟨by rw [hG.out]; rfl, hH.below⟩
      · go_wp2_with (refine st ?_; clear hH; first | intro W g hH | intro W hH)
        exact ⟨⟨k + 1, by omega, by omega, by go_num, fun e => (nomatch e), hH⟩, by simp [intOf]; omega⟩
    · have hG := Lib.hid (show goodA v l = true by
        cases v
        · unfold goodA
          rw [Bool.false_or, beq_iff_eq]
          apply List.ext_getElem?
          intro i
          rw [List.getElem?_drop, List.getElem?_replicate]
          split
          · exact hall rfl _ (by omega) (by omega)
          · exact List.getElem?_eq_none (by omega)
        · rfl)
      clear hall
      go_wp2_with (refine st ?_; clear hH; first | intro W g hH | intro W hH)
      go_ret
      exact ⟨by rw [hG.out]; rfl, hH.below⟩
theorem aRead_one {s : ByteArray} {b : Bool} (h : s.size = if b then 16 else 4) : Gives Tryz.prog 107 #[.string s] w (.tuple #[.agg (addrV b (adOf s)), .int .i64 0]) := by
  refine Gives.of ?_
  have hH := Hp.refl w
  have hs16 : s.size ≤ 16 := by split at h <;> omega
  have oA := okA_bytes (adOf_length hs16)
  have HO := Lib.hid oA
  have hd := Lib.hid (show (adOf s).map byteV = s.data.toList.map byteV ++ List.replicate (16 - s.size) (.int .u8 0) by unfold adOf; rw [List.map_append, List.map_replicate]; rfl)
  have hz : ∀ b : Value, b :: List.replicate 16 (.int .u8 0) = [b] ++ (List.replicate s.size (.int .u8 0) ++ List.replicate (16 - s.size) (.int .u8 0)) := fun b => by
    rw [List.replicate_append_replicate, show s.size + (16 - s.size) = 16 by omega]; rfl
  have d4 : ((s.size : Int) != 4) = b := by cases b <;> simp at h ⊢ <;> omega
  have d5 : ((s.size : Int) != 16) = !b := by cases b <;> simp at h ⊢ <;> omega
  have d6 : ((s.size : Int) == 16) = b := by cases b <;> simp at h ⊢ <;> omega
  rw [addr_segs]
  clear h
  generalize (adOf s).map byteV = Z at *
  have hq : ∀ b, fls [.one b, .many Z 16] = [b] ++ (s.data.toList.map byteV ++ List.replicate (16 - s.size) (.int .u8 0)) := fun b => by simp [fls, hd.out]
  have ho : ∀ b, okS [.one (.bool b), .many Z 16] := fun b => ⟨rfl, HO.out, trivial⟩
  cases b
  all_goals go_enter Tryz.func107, Tryz.ntmps107
  all_goals go_wp2_with (first | ((refine hCpS 0 rfl rfl Tryz.underlying114 size_u8A rfl rfl hs16 hH rfl ?_; refine ⟨_, _, _, _, hz _, rfl, List.length_replicate, ho _, hq _, ?_⟩; intro W H' hu h; (obtain rfl := Option.some.inj hu); clear hu hH; have hH := h; clear h; ((try simp only [Act.put, pA, pB, pC])))) | (refine st ?_; clear hH; first | intro W g hH | intro W hH))
  all_goals (refine iRet2 Tryz.results107 tab_ok rfl rfl hH ?_; refine ⟨_, _, rfl, rfl, rfl, ?_⟩)
  all_goals exact ⟨rfl, hH.below⟩
theorem aRead_t {s : ByteArray} {b : Bool} (_ : b = true) (h : s.size = if b then 16 else 4) : Gives Tryz.prog 107 #[.string s] w (.tuple #[.agg (addrV b (adOf s)), .int .i64 0]) := aRead_one h
theorem raBytes_any (h : l.length = 16) : Gives Tryz.prog 91 #[.agg (addrV v l)] w (.string (str (bytesA v l))) := by
  refine Gives.of ?_
  have hz := Lib.hid (addrV_size (v := v) h)
  have c0 : (addrV v l)[0]? = some (.bool v) := addrV_0
  have HC := Lib.hid (fun i b (hb : l[i]? = some b) => addrV_at (v := v) hb)
  cases v
  · have hbl : bytesA false l = l.take 4 := by unfold bytesA; rw [if_neg (by decide)]
    rw [hbl]
    clear hbl
    generalize addrV false l = A at *
    go_enter Tryz.func91, Tryz.ntmps91
    go_wp2
    go_loopw [3, 5] (fun x i wr => ∃ k : Nat, k ≤ 4 ∧ i = .int .i64 k ∧ (∃ g c, x = .slice (some ⟨g, 0, none⟩) k c) ∧ wr.ownsRow (w.heap.size + 1) 5 1 x k ((l.take k).map byteV) ∧ Row wr w.heap.size 25 A ∧ Below w.heap.size w wr) (fun _ i _ => 4 - (intOf i).toNat)
    case atStart => exact ⟨0, by omega, rfl, ⟨_, _, rfl⟩, ⟨rfl, .inr ⟨w.heap.size + 1, 0, #[], rfl, Nat.le_refl _, (by have h := Row.new (w.alloc (.cells A 25)) 5 #[]; simpa [Row] using h), Nat.le_refl _, by simp only [maxLen]; omega, rfl, rfl⟩⟩, (Row.new _ _ _).alloc _, by exact blw⟩
    case round =>
      obtain ⟨k, hk, rfl, ⟨g, c, rfl⟩, hown, hrow, hbel⟩ := hrel
      have hsz := hbel.size
      have hrl := hrow.lt
      have HO := Lib.hid hown
      have HR := Lib.hid hrow
      by_cases hlt : k < 4
      · have hb : l[k]? = some l[k] := List.getElem?_eq_getElem (by omega)
        have hcell : wr.cell? ⟨w.heap.size, 1 + k, none⟩ = some (.int .u8 (l[k].toNat : Int)) := (hrow.cell _).trans (HC.out k _ hb)
        have HT := Lib.hid (show l.take (k + 1) = l.take k ++ [l[k]] by rw [List.take_add_one, hb]; rfl)
        clear hb hown hrow
        generalize l[k] = b at *
        obtain ⟨wo, rfl⟩ : ∃ wo : World, wo = wr := ⟨_, rfl⟩
        go_wp2_with (first | (at_builtin; refine wpList_app1 elemU8 rfl _ _ rfl rfl rfl HO.out rfl (by omega) (by simp only [maxLen]; omega) (by omega) ?_; intro v1 w1 hown1 hbel1; have hR1 := HR.out.below hbel1 (by omega); have hb1 := hbel.trans (hbel1.mono (by omega))))
        have hv1 : ∃ g c, v1 = .slice (some ⟨g, 0, none⟩) (k + 1) c := by
          rcases hown1.2 with ⟨_, h0⟩ | ⟨g1, c2, _, h1, _⟩
          · omega
          · exact ⟨g1, c2, h1⟩
        refine ⟨⟨k + 1, by omega, by go_num, hv1, ?_, hR1, hb1⟩, by simp [intOf]; omega⟩
        rw [HT.out, List.map_append]
        exact hown1
      · obtain rfl : k = 4 := by omega
        have hconv := run_str_own (P := Tryz.prog) (w := wr) (dst := 9) Tryz.underlying114 Tryz.underlying5 Tryz.underlying9 hown
        clear hown hrow
        go_wp2
        go_ret
        exact ⟨rfl, hbel⟩
  · have hbl : bytesA true l = l.take 16 := by unfold bytesA; rw [if_pos rfl, List.take_of_length_le (by omega)]
    rw [hbl]
    clear hbl
    generalize addrV true l = A at *
    go_enter Tryz.func91, Tryz.ntmps91
    go_wp2
    go_loopw [3, 5] (fun x i wr => ∃ k : Nat, k ≤ 16 ∧ i = .int .i64 k ∧ (∃ g c, x = .slice (some ⟨g, 0, none⟩) k c) ∧ wr.ownsRow (w.heap.size + 1) 5 1 x k ((l.take k).map byteV) ∧ Row wr w.heap.size 25 A ∧ Below w.heap.size w wr) (fun _ i _ => 16 - (intOf i).toNat)
    case atStart => exact ⟨0, by omega, rfl, ⟨_, _, rfl⟩, ⟨rfl, .inr ⟨w.heap.size + 1, 0, #[], rfl, Nat.le_refl _, (by have h := Row.new (w.alloc (.cells A 25)) 5 #[]; simpa [Row] using h), Nat.le_refl _, by simp only [maxLen]; omega, rfl, rfl⟩⟩, (Row.new _ _ _).alloc _, by exact blw⟩
    case round =>
      obtain ⟨k, hk, rfl, ⟨g, c, rfl⟩, hown, hrow, hbel⟩ := hrel
      have hsz := hbel.size
      have hrl := hrow.lt
      have HO := Lib.hid hown
      have HR := Lib.hid hrow
      by_cases hlt : k < 16
      · have hb : l[k]? = some l[k] := List.getElem?_eq_getElem (by omega)
        have hcell : wr.cell? ⟨w.heap.size, 1 + k, none⟩ = some (.int .u8 (l[k].toNat : Int)) := (hrow.cell _).trans (HC.out k _ hb)
        have HT := Lib.hid (show l.take (k + 1) = l.take k ++ [l[k]] by rw [List.take_add_one, hb]; rfl)
        clear hb hown hrow
        generalize l[k] = b at *
        obtain ⟨wo, rfl⟩ : ∃ wo : World, wo = wr := ⟨_, rfl⟩
        go_wp2_with (first | (at_builtin; refine wpList_app1 elemU8 rfl _ _ rfl rfl rfl HO.out rfl (by omega) (by simp only [maxLen]; omega) (by omega) ?_; intro v1 w1 hown1 hbel1; have hR1 := HR.out.below hbel1 (by omega); have hb1 := hbel.trans (hbel1.mono (by omega))))
        have hv1 : ∃ g c, v1 = .slice (some ⟨g, 0, none⟩) (k + 1) c := by
          rcases hown1.2 with ⟨_, h0⟩ | ⟨g1, c2, _, h1, _⟩
          · omega
          · exact ⟨g1, c2, h1⟩
        refine ⟨⟨k + 1, by omega, by go_num, hv1, ?_, hR1, hb1⟩, by simp [intOf]; omega⟩
        rw [HT.out, List.map_append]
        exact hown1
      · obtain rfl : k = 16 := by omega
        have hconv := run_str_own (P := Tryz.prog) (w := wr) (dst := 9) Tryz.underlying114 Tryz.underlying5 Tryz.underlying9 hown
        clear hown hrow
        go_wp2
        go_ret
        exact ⟨rfl, hbel⟩
theorem raZero_any (h : l.length = 16) : Gives Tryz.prog 40 #[.agg (addrV v l)] w (.bool (zeroA l)) := by
  refine Gives.of ?_
  have hH := Hp.refl w
  have oA := okA_addr (v := v) h
  rw [← addr_segs1]
  have HC := Lib.hid (fun i b (hb : l[i]? = some b) => cellC (v := v) hb)
  generalize addrL v l = A at *
  go_enter Tryz.func40, Tryz.ntmps40
  go_wp2_with (refine st ?_; clear hH; first | intro W g hH | intro W hH)
  go_loopw [3] (fun i wr => ∃ k : Nat, k ≤ 16 ∧ i = .int .i64 k ∧ (∀ j, j < k → l[j]? = some 0) ∧ Hp w.heap.size w wr [(g, 25, true, [.many A 17])]) (fun i _ => 16 - (intOf i).toNat)
  case atStart => exact ⟨0, by omega, rfl, fun j _ => by omega, hH⟩
  case round =>
    clear hH
    obtain ⟨k, hk, rfl, hall, hH⟩ := hrel
    by_cases hlt : k < 16
    · have hb : l[k]? = some l[k] := List.getElem?_eq_getElem (by omega)
      have hcell := HC.out k _ hb
      have HALL := Lib.hid hall
      have HB := Lib.hid hb
      clear hb hall
      generalize l[k] = b at *
      by_cases hb0 : b = 0
      · subst hb0
        have hcell : CellA A (1 + k) (.int .u8 0) := hcell
        go_wp2_with (refine st ?_; clear hH; first | intro W g hH | intro W hH)
        refine ⟨⟨k + 1, by omega, by go_num, fun j hj => ?_, hH⟩, by simp [intOf]; omega⟩
        by_cases hjk : j = k
        · subst hjk; exact HB.out
        · exact HALL.out j (by omega)
      · have hn : ((b.toNat : Int) != 0) = true := by
          have : b.toNat ≠ 0 := fun e => hb0 (UInt8.toNat.inj e)
          simp; omega
        have hG := Lib.hid (show zeroA l = false by
          unfold zeroA
          rw [beq_eq_false_iff_ne]
          intro e
          have h1 := HB.out
          rw [e] at h1
          unfold zero16 at h1
          rw [List.getElem?_replicate, if_pos (by omega)] at h1
          exact hb0 (by injection h1 with h1; exact h1.symm))
        go_wp2_with (refine st ?_; clear hH; first | intro W g hH | intro W hH)
        go_ret
        exact ⟨by rw [hG.out]; rfl, hH.below⟩
    · have hG := Lib.hid (show zeroA l = true by
        unfold zeroA
        rw [beq_iff_eq]
        apply List.ext_getElem?
        intro i
        unfold zero16
        rw [List.getElem?_replicate]
        split
        · exact hall _ (by omega)
        · exact List.getElem?_eq_none (by omega))
      clear hall
      go_wp2_with (refine st ?_; clear hH; first | intro W g hH | intro W hH)
      go_ret
      exact ⟨by rw [hG.out]; rfl, hH.below⟩
end
end Go.Proofs.YtdnehjhijmeihaaGreat

