/-
  Sb: S1, S2, S3, S4 in one text.
-/
import Derived.Test.YtdbdlhmgokllaaaE2
import Derived.Test.YtdbdlhmgokllaaaIn
import Derived.Test.YtdbdlhmgokllaaaPl
import Derived.Lib.AppendZerosOnto
import Derived.Lib.Overlaps
namespace Go.Proofs.Ytdbdlhmgokllaaa
-- %in
section
open Go.ChangeShapes Go.WideShapes Go.ChangeAt Go.RowKit
set_option linter.unusedVariables false
set_option linter.unusedSimpArgs false
set_option maxRecDepth 20000
attribute [local irreducible] wpList

def bsF (L : List En) (x : En) : Nat → Nat → Nat → Nat
  | 0, i, _ => i
  | f + 1, i, j => if i < j then match L[(i + j) / 2]? with
    | some a => if cmpE a x < 0 then bsF L x f ((i + j) / 2 + 1) j else bsF L x f i ((i + j) / 2)
    | none => i
    else i
def isF (L : List En) (x : En) (i : Nat) : Bool := match L[i]? with
  | some a => cmpE a x == 0
  | none => false
section
variable {w : World} {p s : Option Addr} {c cs : Nat} {L : List En} {x : En}
set_option maxHeartbeats 8000000 in
theorem bs_any (h : EnsAt w p L) (hL : L.length ≤ 100000) : Gives Try.prog 41 #[.slice p L.length c, .agg (fls (enS x s cs)).toArray, .func (.func 31) #[] #[]] w (.tuple #[.int .i64 (bsF L x L.length 0 L.length : Int), .bool (isF L x (bsF L x L.length 0 L.length))]) := by
  have HA := Lib.hid h
  clear h
  refine Gives.of ?_
  have hH := Hp.refl w
  generalize hres : bsF L x L.length 0 L.length = res
  have HRES := Lib.hid hres
  clear hres
  generalize his : isF L x res = ris
  have HIS := Lib.hid his
  clear his
  have FC := Lib.hid (fun (a : En) (p : Option Addr) (c : Nat) (w : World) => eCmp_any (a := a) (b := x) (p := p) (q := s) (c := c) (d := cs) (w := w))
  obtain ⟨k, G, ex, l⟩ := x
  have oX := adL_ok G
  unfold enS at *
  simp only at *
  obtain ⟨Y, hY⟩ : ∃ Y, Y = adL G := ⟨_, rfl⟩
  rw [← hY] at oX FC ⊢
  clear hY
  generalize l.length = ln at *
  go_enter Try.func41, Try.ntmps41
  go_wp2_with (first | ((first | (refine hBx rfl ?_ rfl hH ?_ ?_; (focus first|exact wN rfl|exact rfl); (focus (repeat (first | exact trivial | assumption | exact OkA.z (by kernel_rfl) (by kernel_rfl) | refine ⟨rfl, ?_⟩ | refine ⟨?_, ?_⟩))))); clear hH; (first | intro W g hH | intro W hH); ((try simp only [Act.put, pA, pB, pC]))))
  go_loopw [9, 10] (fun si sj wr => ∃ (i j f : Nat), si = .int .i64 (i : Int) ∧ sj = .int .i64 (j : Int) ∧ j ≤ L.length ∧ j - i ≤ f ∧ i ≤ L.length ∧ Hid (bsF L ⟨k, G, ex, l⟩ f i j = res) ∧ Hp w.heap.size w wr [(g, 30, true, [.one (.int .i64 k), .many Y 17, .one (.bool ex), .one (.slice s ln cs)])]) (fun si sj _ => (intOf sj).toNat - (intOf si).toNat)
  case atStart => exact ⟨0, L.length, L.length, rfl, rfl, by omega, by omega, by omega, HRES, hH⟩
  case round =>
    clear hH HRES
    obtain ⟨i, j, f, rfl, rfl, hj, hf, hi, HB, hH⟩ := hrel
    by_cases hij : i < j
    · obtain ⟨f, rfl⟩ : ∃ f', f = f' + 1 := ⟨f - 1, by omega⟩
      have hm : (i + j) / 2 < L.length := by omega
      have hb := HB.out
      unfold bsF at hb
      rw [if_pos hij, List.getElem?_eq_getElem hm] at hb
      simp only at hb
      have dij : decide ((i : Int) < (j : Int)) = true := decide_eq_true (by omega)
      obtain ⟨q, sa, ca, hq, fA, _⟩ := HA.out.get hm
      subst hq
      have fC := fun w => FC.out L[(i + j) / 2] sa ca w
      clear HA
      generalize L[(i + j) / 2] = a at *
      obtain ⟨z, hz⟩ : ∃ z, cmpE a ⟨k, G, ex, l⟩ = z := ⟨_, rfl⟩
      rw [hz] at fC hb
      clear hz FC HB
      obtain ⟨ka, Ga, exa, la⟩ := a
      unfold enS at fA
      simp only at fA fC
      have oA := adL_ok Ga
      generalize adL Ga = YA at *
      have u1 : ((((i : Int) + (j : Int)) / 2).toNat : Nat) = (i + j) / 2 := by omega
      by_cases hz : z < 0
      · rw [if_pos hz] at hb
        have HB2 := Lib.hid hb
        clear hb
        have dz : decide (z < 0) = true := decide_eq_true hz
        go_wp2_with (fail)
        ((with_reducible refine regKN [] hH (SubH.refl) (by kernel_rfl) ?_); (clear hH; intro W hH); (refine hk_pures (fuel := 4) (pk 0 rfl (pk 1 rfl (pk 2 rfl (pk 3 rfl (PickR.nil))))) (by kernel_rfl) (by kernel_rfl) (fun _ _ _ _ _ h => h) ?_; (repeat (go_big_quiet_step (fail))); refine hk_nil ?_); (refine hk_loads (fuel := 2) (pk 4 rfl (pk 5 rfl (PickR.nil))) (by kernel_rfl) (by kernel_rfl) (fun _ _ _ _ _ h => h) hH ?_ ?_; (focus (exact SubI.h)); intro hne; (repeat (first | (go_big_quiet_want; (first | (refine qiL tab_ok rfl rfl ?_; refine ⟨_, _, rfl, rfl, ?_⟩) | ((first | (refine qLoR tab_ok rfl rfl rfl rfl ?_; refine ⟨_, fA, ⟨rfl, oA, rfl, rfl, trivial⟩, rfl, ?_⟩)))); (try simp only [Act.put, pA, pB, pC]); go_big_quiet_on) | go_big_quiet_step (fail))); refine hk_nil ?_; clear hne); (refine hk_one (fuel := 1) 6 rfl (by kernel_rfl) ?_; go_wp2_with (first | ((first | ((with_reducible refine callH hH ?_); refine ⟨?_, ?_, ?_⟩; rotate_left; (focus (first | (with_reducible exact fC _))))); clear hH; (first | intro W g hH | intro W hH); ((try simp only [Act.put, pA, pB, pC])))); refine hkQ_normal hH ?_ ?_; (focus (exact SubI.h)); (try simp only [Act.put, pA, pB, pC])); (refine hk_pures (fuel := 0) (pk 7 rfl (PickR.nil)) (by kernel_rfl) (by kernel_rfl) (fun _ _ _ _ _ h => h) ?_; (repeat (go_big_quiet_step (fail))); refine hk_nil ?_); refine hk_endN (by kernel_rfl) ?_)
        go_wp2_with (fail)
        refine ⟨⟨(i + j) / 2 + 1, j, f, by simp, rfl, hj, by omega, by omega, HB2, hH⟩, ?_⟩
        simp only [intOf]
        omega
      · rw [if_neg hz] at hb
        have HB2 := Lib.hid hb
        clear hb
        have dz : decide (z < 0) = false := decide_eq_false hz
        go_wp2_with (fail)
        ((with_reducible refine regKN [] hH (SubH.refl) (by kernel_rfl) ?_); (clear hH; intro W hH); (refine hk_pures (fuel := 4) (pk 0 rfl (pk 1 rfl (pk 2 rfl (pk 3 rfl (PickR.nil))))) (by kernel_rfl) (by kernel_rfl) (fun _ _ _ _ _ h => h) ?_; (repeat (go_big_quiet_step (fail))); refine hk_nil ?_); (refine hk_loads (fuel := 2) (pk 4 rfl (pk 5 rfl (PickR.nil))) (by kernel_rfl) (by kernel_rfl) (fun _ _ _ _ _ h => h) hH ?_ ?_; (focus (exact SubI.h)); intro hne; (repeat (first | (go_big_quiet_want; (first | (refine qiL tab_ok rfl rfl ?_; refine ⟨_, _, rfl, rfl, ?_⟩) | ((first | (refine qLoR tab_ok rfl rfl rfl rfl ?_; refine ⟨_, fA, ⟨rfl, oA, rfl, rfl, trivial⟩, rfl, ?_⟩)))); (try simp only [Act.put, pA, pB, pC]); go_big_quiet_on) | go_big_quiet_step (fail))); refine hk_nil ?_; clear hne); (refine hk_one (fuel := 1) 6 rfl (by kernel_rfl) ?_; go_wp2_with (first | ((first | ((with_reducible refine callH hH ?_); refine ⟨?_, ?_, ?_⟩; rotate_left; (focus (first | (with_reducible exact fC _))))); clear hH; (first | intro W g hH | intro W hH); ((try simp only [Act.put, pA, pB, pC])))); refine hkQ_normal hH ?_ ?_; (focus (exact SubI.h)); (try simp only [Act.put, pA, pB, pC])); (refine hk_pures (fuel := 0) (pk 7 rfl (PickR.nil)) (by kernel_rfl) (by kernel_rfl) (fun _ _ _ _ _ h => h) ?_; (repeat (go_big_quiet_step (fail))); refine hk_nil ?_); refine hk_endN (by kernel_rfl) ?_)
        go_wp2_with (fail)
        refine ⟨⟨i, (i + j) / 2, f, rfl, by simp, by omega, by omega, hi, HB2, hH⟩, ?_⟩
        simp only [intOf]
        omega
    · have hb : i = res := by
        have := HB.out
        cases f with
        | zero => exact this
        | succ f => unfold bsF at this; rwa [if_neg hij] at this
      subst hb
      have dij : decide ((i : Int) < (j : Int)) = false := decide_eq_false (by omega)
      clear HB
      by_cases hin : i < L.length
      · have din : decide ((i : Int) < (L.length : Int)) = true := decide_eq_true (by omega)
        obtain ⟨q, sa, ca, hq, fA, _⟩ := HA.out.get hin
        subst hq
        have fC := fun w => FC.out L[i] sa ca w
        have hr := HIS.out
        unfold isF at hr
        rw [List.getElem?_eq_getElem hin] at hr
        simp only at hr
        clear HA FC HIS
        generalize L[i] = a at *
        obtain ⟨z, hz⟩ : ∃ z, cmpE a ⟨k, G, ex, l⟩ = z := ⟨_, rfl⟩
        rw [hz] at fC hr
        clear hz
        obtain ⟨ka, Ga, exa, la⟩ := a
        unfold enS at fA
        simp only at fA fC
        have oA := adL_ok Ga
        generalize adL Ga = YA at *
        subst hr
        go_wp2_with (fail)
        ((with_reducible refine regKN [] hH (SubH.refl) (by kernel_rfl) ?_); (clear hH; intro W hH); (refine hk_pures (fuel := 7) (pk 0 rfl (pk 1 rfl (pk 2 rfl (pk 3 rfl (pk 4 rfl (pk 5 rfl (pk 6 rfl (pk 7 rfl (pk 8 rfl (PickR.nil)))))))))) (by kernel_rfl) (by kernel_rfl) (fun _ _ _ _ _ h => h) ?_; (repeat (go_big_quiet_step (fail))); refine hk_nil ?_); (refine hk_loads (fuel := 5) (pk 9 rfl (pk 10 rfl (PickR.nil))) (by kernel_rfl) (by kernel_rfl) (fun _ _ _ _ _ h => h) hH ?_ ?_; (focus (exact SubI.h)); intro hne; (repeat (first | (go_big_quiet_want; (first | (refine qiL tab_ok rfl rfl ?_; refine ⟨_, _, rfl, rfl, ?_⟩) | ((first | (refine qLoR tab_ok rfl rfl rfl rfl ?_; refine ⟨_, fA, ⟨rfl, oA, rfl, rfl, trivial⟩, rfl, ?_⟩)))); (try simp only [Act.put, pA, pB, pC]); go_big_quiet_on) | go_big_quiet_step (fail))); refine hk_nil ?_; clear hne); (refine hk_one (fuel := 4) 11 rfl (by kernel_rfl) ?_; go_wp2_with (first | ((first | ((with_reducible refine callH hH ?_); refine ⟨?_, ?_, ?_⟩; rotate_left; (focus (first | (with_reducible exact fC _))))); clear hH; (first | intro W g hH | intro W hH); ((try simp only [Act.put, pA, pB, pC])))); refine hkQ_normal hH ?_ ?_; (focus (exact SubI.h)); (try simp only [Act.put, pA, pB, pC])); (refine hk_pures (fuel := 0) (pk 12 rfl (pk 13 rfl (pk 14 rfl (pk 15 rfl (PickR.nil))))) (by kernel_rfl) (by kernel_rfl) (fun _ _ _ _ _ h => h) ?_; (repeat (go_big_quiet_step (fail))); refine hk_nil ?_); refine hk_endN (by kernel_rfl) ?_)
        go_wp2_with (fail)
        go_ret2
        exact ⟨rfl, hH.below⟩
      · have din : decide ((i : Int) < (L.length : Int)) = false := decide_eq_false (by omega)
        have hr := HIS.out
        unfold isF at hr
        rw [List.getElem?_eq_none (by omega)] at hr
        simp only at hr
        clear HA FC HIS
        subst hr
        go_wp2_with (fail)
        ((with_reducible refine regKN [] hH (SubH.refl) (by kernel_rfl) ?_); (clear hH; intro W hH); (refine hk_pures (fuel := 7) (pk 0 rfl (pk 1 rfl (pk 2 rfl (pk 3 rfl (pk 4 rfl (pk 5 rfl (pk 6 rfl (pk 7 rfl (pk 8 rfl (PickR.nil)))))))))) (by kernel_rfl) (by kernel_rfl) (fun _ _ _ _ _ h => h) ?_; (repeat (go_big_quiet_step (fail))); refine hk_nil ?_); (refine hk_loads (fuel := 5) (pk 9 rfl (pk 10 rfl (PickR.nil))) (by kernel_rfl) (by kernel_rfl) (fun _ _ _ _ _ h => h) hH ?_ ?_; (focus (exact SubI.h)); intro hne; (repeat (go_big_quiet_step (fail))); refine hk_nil ?_; clear hne); (refine hk_one (fuel := 4) 11 rfl (by kernel_rfl) ?_; go_wp2_with (fail); refine hkQ_normal hH ?_ ?_; (focus (exact SubI.h)); (try simp only [Act.put, pA, pB, pC])); (refine hk_pures (fuel := 0) (pk 12 rfl (pk 13 rfl (pk 14 rfl (pk 15 rfl (PickR.nil))))) (by kernel_rfl) (by kernel_rfl) (fun _ _ _ _ _ h => h) ?_; (repeat (go_big_quiet_step (fail))); refine hk_nil ?_); refine hk_endN (by kernel_rfl) ?_)
        go_wp2_with (fail)
        go_ret2
        exact ⟨rfl, hH.below⟩
end
end
section
open Go.ChangeShapes Go.WideShapes Go.ChangeAt Go.RowKit
set_option linter.unusedVariables false
set_option linter.unusedSimpArgs false
set_option maxRecDepth 20000
attribute [local irreducible] wpList

theorem run_copy_at {P : Program} (w : World) (dT sT ty elem : TypeId) (b o dLen dCap : Nat) (q : Addr) (sLen sCap sz : Nat) (cs : List Value)
    (hu : P.underlying dT = some (.slice elem)) (hs : (P.info? elem).map (·.size) = some sz) (hn : cs.length = Nat.min sLen dLen * sz)
    (hsrc : ∀ j v, cs[j]? = some v → w.cell? (q.add j) = some v) (hc : ∀ j, j < cs.length → (w.cell? ⟨b, o + j, none⟩).isSome = true) (hf : ∀ j, j < cs.length → w.frozen? ⟨b, o + j, none⟩ = false) (h1 : ∀ v ∈ cs, v.oneCell' = true) :
    (Builtin.copy_ #[dT, sT] ty #[.slice (some ⟨b, o, none⟩) dLen dCap, .slice (some q) sLen sCap]).run P w = .ok (goInt (Nat.min sLen dLen)) (w.setCells b o cs) := by
  have hl := run_loadCells_list (P := P) w q cs hsrc
  have hst := run_storeCells_cells (P := P) b o cs 0 w (by simpa using hc) (by simpa using hf) h1
  cases hq : P.info? elem with
  | none => simp [hq] at hs
  | some i =>
    have hi : i.size = sz := by simpa [hq] using hs
    simp [Builtin.copy_, run_underlying hu, Builtin.lenOf, Builtin.firstCells, sizeOf, typeInfo, hq, hi, ← hn, hl, hst]
section
variable {P : Program} {T : Tab} {TS : List (Nat × Nat)} {B : Nat} {w0 W : World} {H : HB} {g gx : Nat} {t el ty ty' tn : TypeId} {b : Bool} {S : List Seg} {e : TyE}
variable {ops : Array Oper} {rest : List Oper} {op : Oper} {a : Act} {Q : Exit → Act → World → Prop} {x s y : Operand} {n c m cx p q o : Nat} {L J C A : List Value} {qa : Addr} {v : Value} {kn : IntKind} {z : Int}
theorem Row.shape {w : World} {g : Nat} {t : TypeId} {cs : Array Value} (h : Row w g t cs) : w.shape? g = some (t, cs.size) := by
  unfold Row at h
  simp [World.shape?, h]
theorem hCpy (i : Nat) (hT : TabOk P T) (hTS : TabSOk P TS) (hfs : findS ty TS = some el) (hty : findT el T = some e) (hgd : op.guard = none)
    (ho : op.op = .call { callee := .builtin .copy, args := #[s, x], argTypes := #[ty, ty'] }) (hs : a.eval s = .slice (some ⟨g, o, none⟩) n c) (hx : a.eval x = .slice (some qa) m cx) (hH : Hp B w0 W H)
    (hi : nthH H i = some (g, t, true, S))
    (h : ∃ C pre old post S', OldS W qa C ∧ C.length = Nat.min m n * e.size ∧ (∀ v ∈ C, v.oneCell' = true) ∧ fls S = pre ++ (old ++ post) ∧ pre.length = o ∧ old.length = C.length ∧ okS S' ∧ fls S' = pre ++ (C ++ post) ∧
      ∀ W' H', updH H i S' = some H' → Hp B w0 W' H' → wpList P ops Q rest (a.put op.dst (goInt (Nat.min m n))) W') : wpList P ops Q (op :: rest) a W := by
  obtain ⟨C, pre, old, post, S', hC, hl, h1, hf, hp, ho2, hS', hf', h⟩ := h
  subst hp
  have hu := (hTS.find hfs).slice
  have hz := (hT.find hty).size
  unfold sizeT at hz
  obtain ⟨hr1, hS, hB⟩ := hH.rows.mem hi
  obtain ⟨H', hu'⟩ := upd_ex hi S'
  have hr := run_copy_at (P := P) W ty ty' op.type el g pre.length n c qa m cx e.size C hu hz hl hC (fun j hj => by
      rw [hr1.cell, List.getElem?_toArray, hf, List.getElem?_append_right (by omega), Nat.add_sub_cancel_left, List.getElem?_append_left (by omega), List.getElem?_eq_getElem (by omega)]; rfl) (fun j hj => hr1.frozen _) h1
  have hfin := h _ H' hu' (hH.mid hi hf ho2 hS' hf' hu')
  refine wpList_plain hgd fun K hK => ?_
  unfold Oper.wp execOp
  simp only [ho, resolve, invoke, builtin, Sem.run_bind, Sem.run_pure, Result.andThen_ok, List.map_toArray, List.map_cons, List.map_nil, hs, hx, hr]
  exact hK _ _ hfin
theorem hApZ (i : Nat) (hT : TabOk P T) (hTS : TabSOk P TS) (hfs : findS ty TS = some el) (hty : findT el T = some e) (hlz : lenS e.zero = e.size) (hgd : op.guard = none)
    (ho : op.op = .call { callee := .builtin .append, args := #[s, x], argTypes := #[ty, tn] }) (htn : P.underlying tn = some (.int kn)) (hs : a.eval s = .slice (some ⟨g, 0, none⟩) n c) (hx : a.eval x = .int .i64 z) (hH : Hp B w0 W H)
    (hi : nthH H i = some (g, t, b, S)) (hsz : Nat.ble 1 e.size = true)
    (h : ∃ k L R, z = ((k : Nat) : Int) ∧ fls S = L ++ R ∧ L.length = n * e.size ∧ 0 < k ∧ c < n + k ∧ n + k ≤ 1000000 ∧
      ∀ W' g' c' q' Z J', Grow e.size (n + k) c' ((n + k) * e.size) q' → OkA Z (k * e.size) → OkA J' q' → Hp B w0 W' ((g', el, true, [.many (L ++ Z) ((n + k) * e.size), .many J' q']) :: H) → wpList P ops Q rest (a.put op.dst (.slice (some ⟨g', 0, none⟩) (n + k) c')) W') : wpList P ops Q (op :: rest) a W := by
  obtain ⟨k, L, R, rfl, hf, hL, hk, hck, hkl, h⟩ := h
  have hsz := Nat.le_of_ble_eq_true hsz
  have hu := (hTS.find hfs).slice
  have hby := (hTS.find hfs).bytes
  obtain ⟨hr1, hS, hB⟩ := hH.rows.mem hi
  obtain ⟨ie, z, hq, hz, e1, e2, e3⟩ := elem_parts hT hty hlz
  have hby : ie.bytes ≤ 100000 := by unfold bytesOk at hby; rw [hq] at hby; exact Nat.le_of_ble_eq_true hby
  have hold : (Builtin.firstCells ie.size n (.slice (some ⟨g, 0, none⟩) n c)).run P W.drew = .ok L.toArray W.drew := run_firstCells_some W.drew ie.size n ⟨g, 0, none⟩ n c L (by rw [hL, e1]) (fun j u hu => by
      show W.cell? _ = _
      rw [show (⟨g, 0, none⟩ : Addr).add j = ⟨g, j, none⟩ by unfold Addr.add; split <;> simp_all, hr1.cell, List.getElem?_toArray, hf, List.getElem?_append_left (List.getElem?_eq_some_iff.1 hu).1]
      exact hu)
  have hr := Lib.run_append_grow_zeros (P := P) W ty tn op.type el ie z .i64 kn hu htn hq hz (some ⟨g, 0, none⟩) n c L hold k hk (by omega) hck (by omega) (Nat.le_trans (Nat.mul_le_mul (show k ≤ 1000000 by omega) hby) (by decide)) (growslice_fits hck (Nat.le_trans (Nat.mul_le_mul hkl hby) (by decide)))
  have hge := grownCap_ge W (n + k) c el
  have hmost : grownCap W (n + k) c el ≤ maxLen := grownCap_le_maxLen W (n + k) c el (by simp only [maxLen]; omega)
  generalize grownCap W (n + k) c el = c' at *
  have hzc1 : Builtin.zeroCells z.cells k = (fls (repS k e.zero)).toArray := rep_cells e2 (by omega) _
  have hzc : Builtin.zeroCells z.cells (c' - (n + k)) = (fls (repS (c' - (n + k)) e.zero)).toArray := rep_cells e2 (by omega) _
  have hoz1 := okS_rep (hT.find hty).okz k
  have hoz := okS_rep (hT.find hty).okz (c' - (n + k))
  have hlr1 : lenS (repS k e.zero) = k * e.size := by rw [lenS_rep, hlz]
  have hlr : lenS (repS (c' - (n + k)) e.zero) = (c' - (n + k)) * e.size := by rw [lenS_rep, hlz]
  have hmul : (n + k) * e.size + (c' - (n + k)) * e.size = c' * e.size := by rw [← Nat.add_mul]; congr 1; omega
  have hcell : (L.toArray ++ Builtin.zeroCells z.cells k ++ Builtin.zeroCells z.cells (c' - (n + k)) : Array Value) = (fls [.many (L ++ fls (repS k e.zero)) ((n + k) * e.size), .many (fls (repS (c' - (n + k)) e.zero)) ((c' - (n + k)) * e.size)]).toArray := by
    rw [hzc, hzc1, fls_two]; simp
  rw [hcell] at hr
  have okZ := okA_fls hoz1 hlr1
  have okJ := okA_fls hoz hlr
  have okL : OkA (L ++ fls (repS k e.zero)) ((n + k) * e.size) := ⟨by rw [List.length_append, hL, okZ.1, Nat.add_mul], fun v hv => by
    rcases List.mem_append.1 hv with hv | hv
    · exact okS_one hS v (by rw [hf]; exact List.mem_append_left _ hv)
    · exact okZ.2 v hv⟩
  refine wpList_plain hgd fun K hK => ?_
  unfold Oper.wp execOp
  simp only [ho, resolve, invoke, builtin, Sem.run_bind, Sem.run_pure, Result.andThen_ok, List.map_toArray, List.map_cons, List.map_nil, hs, hx, hr]
  exact hK _ _ (h _ W.heap.size c' ((c' - (n + k)) * e.size) _ _ ⟨rfl, hmul, hge, hmost⟩ okZ okJ (hH.drew.alloc el ⟨okL, okJ, trivial⟩))
end
end
section
open Go.ChangeShapes Go.WideShapes Go.ChangeAt Go.RowKit
set_option linter.unusedVariables false
set_option linter.unusedSimpArgs false
set_option maxRecDepth 20000
attribute [local irreducible] wpList

theorem evsL_app (X Y : List Ev) : evsL (X ++ Y) = evsL X ++ evsL Y := by simp [evsL]
theorem evsL_cons (x : Ev) (Y : List Ev) : evsL (x :: Y) = fls (evS x) ++ evsL Y := rfl
theorem evS_fls_len (x : Ev) : (fls (evS x)).length = 20 := by rw [okS_len (evS_ok x), evS_len]
section
variable {B : Nat} {w0 W : World} {D : HB} {Q : Ending → World → Prop} {g c q : Nat} {J : List Value}
theorem evsL_one (L : List Ev) : ∀ v ∈ evsL L, v.oneCell' = true := (evsL_ok L).2
theorem take_eraseE (L : List Ev) (k : Nat) : evsL (L.take k) ++ evsL (L.drop (k + 1)) = evsL (L.eraseIdx k) := by
  rw [List.eraseIdx_eq_take_drop_succ, evsL_app]
variable {L : List Ev} {k gl : Nat}
set_option maxHeartbeats 2000000 in
theorem delE_any (hG : Grow 20 L.length c (L.length * 20) q) (oJ : OkA J q) (hk : k < L.length) (hl : L.length ≤ 100000) (hH : Hp B w0 W ((gl, 30, true, [.many (evsL L) (L.length * 20), .many J q]) :: D))
    (hQ : ∀ W' q' J', Grow 20 (L.eraseIdx k).length c ((L.eraseIdx k).length * 20) q' → OkA J' q' → Hp B w0 W' ((gl, 30, true, [.many (evsL (L.eraseIdx k)) ((L.eraseIdx k).length * 20), .many J' q']) :: D) → Q (.returned (.slice (some ⟨gl, 0, none⟩) (L.eraseIdx k).length c)) W') :
    Calls Try.prog 42 #[.slice (some ⟨gl, 0, none⟩) L.length c, .int .i64 (k : Int), .int .i64 ((k : Int) + 1)] W Q := by
  obtain ⟨m, hm⟩ : ∃ m, L.length = k + 1 + m := ⟨L.length - (k + 1), by omega⟩
  have hle := hG.le
  have hmo : c ≤ 9223372036854775807 := by have := hG.most; simpa [maxLen] using this
  have hp := hG.hq
  have e1 : (L.eraseIdx k).length = k + m := by rw [List.length_eraseIdx_of_lt hk]; omega
  have l1 : (evsL (L.take k)).length = k * 20 := by rw [evsL_len, List.length_take]; congr 1; omega
  have l2 : (evsL (L.drop (k + 1))).length = m * 20 := by rw [evsL_len, List.length_drop]; congr 1; omega
  have l3 : (evsL (L.drop k) ++ J).length = (c - k) * 20 := by rw [List.length_append, evsL_len, List.length_drop, oJ.1]; omega
  have oA : OkA (evsL (L.take k)) (k * 20) := ⟨l1, evsL_one _⟩
  have oC : OkA (evsL (L.drop (k + 1))) (m * 20) := ⟨l2, evsL_one _⟩
  have oB : OkA (evsL (L.drop k) ++ J) ((c - k) * 20) := ⟨l3, fun v hv => by
    rcases List.mem_append.1 hv with h | h
    · exact evsL_one _ v h
    · exact oJ.2 v h⟩
  have hsp : evsL L ++ J = evsL (L.take k) ++ (evsL (L.drop k) ++ J) := by rw [← List.append_assoc, ← evsL_app, List.take_append_drop]
  have aC : AtL (fls [.many (evsL (L.take k)) (k * 20), .many (evsL (L.drop k) ++ J) ((c - k) * 20)]) ((k + 1) * 20) (evsL (L.drop (k + 1))) := ⟨evsL (L.take (k + 1)), J, by
    rw [fls_two, ← hsp, ← List.append_assoc, ← evsL_app, List.take_append_drop], by rw [evsL_len, List.length_take]; congr 1; omega⟩
  have hG2 : Grow 20 k c (k * 20) ((c - k) * 20) := ⟨rfl, by omega, by omega, hG.most⟩
  have hH := hH.re0 (S' := [.many (evsL (L.take k)) (k * 20), .many (evsL (L.drop k) ++ J) ((c - k) * 20)]) (by rw [fls_two, fls_two, hsp]) ⟨oA, oB, trivial⟩
  have HT := Lib.hid (take_eraseE L k)
  rw [e1] at hQ
  have HQ := Lib.hid hQ
  clear hQ e1 hsp l1 l2 l3
  have HG := Lib.hid hG2
  clear hG hG2 hp
  rw [hm] at hl hle ⊢
  clear hm hk
  generalize evsL (L.eraseIdx k) = EL at *
  generalize evsL (L.take k) = TK at *
  generalize evsL (L.drop (k + 1)) = DR at *
  generalize (evsL (L.drop k) ++ J) = JJ at *
  have d0 : ((k : Int) == (k : Int) + 1) = false := by simp; omega
  by_cases hck : c = k + 1
  · have hm0 : m = 0 := by omega
    have HDR := Lib.hid (show DR = [] by have := oC.1; rw [hm0] at this; exact List.eq_nil_of_length_eq_zero (by omega))
    subst hm0
    subst hck
    go_enter Try.func42, Try.ntmps42
    go_wp2_with (fail)
    ((with_reducible refine regKN [6] hH (SubH.refl) (by kernel_rfl) ?_); (clear hH; intro W hH); (refine hk_pures (fuel := 2) (pk 0 rfl (pk 1 rfl (pk 2 rfl (pk 3 rfl (pk 4 rfl (pk 5 rfl (PickR.nil))))))) (by kernel_rfl) (by kernel_rfl) (fun _ _ _ _ _ h => h) ?_; (repeat (go_big_quiet_step (fail))); refine hk_nil ?_); (refine hk_one (fuel := 1) 6 rfl (by kernel_rfl) ?_; go_wp2_with (first | ((refine hAppR 0 tab_ok tabs_ok rfl rfl rfl rfl rfl rfl rfl hH rfl ?_; refine ⟨[], fun j u h => by simp at h, ⟨rfl, by simp⟩, HG.out, ?_, ?_⟩; (focus omega); intro W H' hu h; (obtain rfl := Option.some.inj hu); clear hu hH; have hH := h; clear h; (try simp only [List.append_nil, Nat.zero_mul, List.drop_zero, Nat.add_zero] at hH); ((try simp only [Act.put, pA, pB, pC]))))); refine hkQ_break ?_; (try simp only [Act.put, pA, pB, pC])); (refine hk_pures (fuel := 0) (pk 7 rfl (PickR.nil)) (by kernel_rfl) (by kernel_rfl) (fun _ _ _ _ _ h => h) ?_; (repeat (go_big_quiet_step (fail))); refine hk_nil ?_); refine hk_endN (by kernel_rfl) ?_)
    go_wp2_with (first | ((refine hClr 0 tab_ok tabs_ok rfl rfl rfl rfl rfl rfl hH rfl ?_; refine ⟨?_, ?_, ?_⟩; (focus (first | rfl | omega | (simp; omega))); (focus (first | omega | (simp; omega))); intro W H' J' hJ' hu h; (obtain rfl := Option.some.inj hu); clear hu hH; have hH := h; clear h; ((try simp only [Act.put, pA, pB, pC])))))
    have ho := HG.out.most
    simp only [Nat.add_zero] at HQ
    refine HQ.out _ _ _ ⟨rfl, by omega, by omega, ho⟩ hJ' ?_
    rw [← HT.out, HDR.out, List.append_nil]
    exact hH
  · have hck2 : k + 1 < c := by omega
    have hck3 : ¬ c - (k + 1) = 0 := by omega
    go_enter Try.func42, Try.ntmps42
    go_wp2_with (fail)
    ((with_reducible refine regKN [6] hH (SubH.refl) (by kernel_rfl) ?_); (clear hH; intro W hH); (refine hk_pures (fuel := 2) (pk 0 rfl (pk 1 rfl (pk 2 rfl (pk 3 rfl (pk 4 rfl (pk 5 rfl (PickR.nil))))))) (by kernel_rfl) (by kernel_rfl) (fun _ _ _ _ _ h => h) ?_; (repeat (go_big_quiet_step (fail))); refine hk_nil ?_); (refine hk_one (fuel := 1) 6 rfl (by kernel_rfl) ?_; go_wp2_with (first | ((refine hAppR 0 tab_ok tabs_ok rfl rfl rfl rfl rfl rfl rfl hH rfl ?_; refine ⟨DR, hH.oldS (i := 0) rfl aC, oC, HG.out, ?_, ?_⟩; (focus omega); intro W H' hu h; (obtain rfl := Option.some.inj hu); clear hu hH; have hH := h; clear h; ((try simp only [Act.put, pA, pB, pC]))))); refine hkQ_break ?_; (try simp only [Act.put, pA, pB, pC])); (refine hk_pures (fuel := 0) (pk 7 rfl (PickR.nil)) (by kernel_rfl) (by kernel_rfl) (fun _ _ _ _ _ h => h) ?_; (repeat (go_big_quiet_step (fail))); refine hk_nil ?_); refine hk_endN (by kernel_rfl) ?_)
    go_wp2_with (first | ((refine hClr 0 tab_ok tabs_ok rfl rfl rfl rfl rfl rfl hH rfl ?_; refine ⟨?_, ?_, ?_⟩; (focus (first | rfl | omega | (simp; omega))); (focus (first | omega | (simp; omega))); intro W H' J' hJ' hu h; (obtain rfl := Option.some.inj hu); clear hu hH; have hH := h; clear h; ((try simp only [Act.put, pA, pB, pC])))))
    have ho := HG.out.most
    refine HQ.out _ _ _ ⟨rfl, by omega, by omega, ho⟩ hJ' ?_
    rw [← HT.out]
    exact hH
end
end
section
open Go.ChangeShapes Go.WideShapes Go.ChangeAt Go.RowKit
set_option linter.unusedVariables false
set_option linter.unusedSimpArgs false
set_option maxRecDepth 20000
attribute [local irreducible] wpList

section
variable {B : Nat} {w0 W : World} {D : HB} {Q : Ending → World → Prop} {gl gv c cv q k m : Nat} {J TK XK R V : List Value}
theorem insEnd {LS : List Value} {n : Nat} (hl : n ≤ 100000) (hG : Grow 20 n c (n * 20) q) (oJ : OkA J q) (oV : OkA V 20)
    (hH : Hp B w0 W ((gv, 30, true, [.many V 20]) :: (gl, 30, true, [.many LS (n * 20), .many J q]) :: D))
    (hQ : ∀ W' g' c' q' J', Grow 20 (n + 1) c' ((n + 1) * 20) q' → OkA J' q' → Hp B w0 W' ((g', 30, true, [.many (LS ++ V) ((n + 1) * 20), .many J' q']) :: D) → Q (.returned (.slice (some ⟨g', 0, none⟩) (n + 1) c')) W') :
    Calls Try.prog 43 #[.slice (some ⟨gl, 0, none⟩) n c, .int .i64 (n : Int), .slice (some ⟨gv, 0, none⟩) 1 cv] W Q := by
  have HQ := Lib.hid hQ
  clear hQ
  have hle := hG.le
  have hmo : c ≤ 9223372036854775807 := by have := hG.most; simpa [maxLen] using this
  by_cases hnc : c = n
  · subst hnc
    go_enter Try.func43, Try.ntmps43
    go_wp2_with (first | (((first | (refine hApp 1 0 tab_ok tabs_ok rfl rfl rfl rfl rfl rfl rfl hH rfl rfl rfl rfl ?_; refine ⟨?_, ?_, ?_⟩; (focus assumption); (focus (first | omega | (simp; omega))))); clear hH; intro W g c p q J hG hL hJ hH; (try simp only [putH, fls, List.append_nil] at hH hL); (try simp only [Act.put, pA, pB, pC]))))
    obtain rfl := hG.hp
    exact HQ.out _ _ _ _ _ hG hJ (hH.sub (SubH.drop SubH.refl))
  · have hnc1 : ¬ c - n = 0 := by omega
    go_enter Try.func43, Try.ntmps43
    go_wp2_with (first | (((first | (refine hApp 1 0 tab_ok tabs_ok rfl rfl rfl rfl rfl rfl rfl hH rfl rfl rfl rfl ?_; refine ⟨?_, ?_, ?_⟩; (focus assumption); (focus (first | omega | (simp; omega))))); clear hH; intro W g c p q J hG hL hJ hH; (try simp only [putH, fls, List.append_nil] at hH hL); (try simp only [Act.put, pA, pB, pC]))))
    obtain rfl := hG.hp
    exact HQ.out _ _ _ _ _ hG hJ (hH.sub (SubH.drop SubH.refl))
theorem insNil (oV : OkA V 20)
    (hH : Hp B w0 W ((gv, 30, true, [.many V 20]) :: D))
    (hQ : ∀ W' g' c' q' J', Grow 20 1 c' 20 q' → OkA J' q' → Hp B w0 W' ((g', 30, true, [.many V 20, .many J' q']) :: D) → Q (.returned (.slice (some ⟨g', 0, none⟩) 1 c')) W') :
    Calls Try.prog 43 #[.slice none 0 0, .int .i64 0, .slice (some ⟨gv, 0, none⟩) 1 cv] W Q := by
  have HQ := Lib.hid hQ
  clear hQ
  go_enter Try.func43, Try.ntmps43
  go_wp2_with (first | (((first | (refine hApp0 0 tab_ok tabs_ok rfl rfl rfl rfl rfl rfl rfl hH rfl rfl rfl ?_; refine ⟨?_, ?_, ?_⟩; (focus (first | omega | (simp; omega))); (focus (first | omega | (simp; omega))))); clear hH; intro W g c p q J hG hL hJ hH; (try simp only [putH, fls, List.append_nil] at hH hL); (try simp only [Act.put, pA, pB, pC]))))
  obtain rfl := hG.hp
  exact HQ.out _ _ _ _ _ hG hJ (hH.sub (SubH.keep (SubH.drop SubH.refl)))
set_option maxHeartbeats 4000000 in
theorem insMid (hl : k + 1 + m ≤ 100000) (hG : Grow 20 (k + 1 + m) c ((k + 1 + m) * 20) q) (oJ : OkA J q) (oT : OkA TK (k * 20)) (oX : OkA XK 20) (oR : OkA R (m * 20)) (oV : OkA V 20) (hroom : k + 1 + m < c)
    (hH : Hp B w0 W ((gv, 30, true, [.many V 20]) :: (gl, 30, true, [.many (TK ++ (XK ++ R)) ((k + 1 + m) * 20), .many J q]) :: D))
    (hQ : ∀ W' g' c' q' J', Grow 20 (k + 1 + m + 1) c' ((k + 1 + m + 1) * 20) q' → OkA J' q' → Hp B w0 W' ((g', 30, true, [.many (TK ++ (V ++ (XK ++ R))) ((k + 1 + m + 1) * 20), .many J' q']) :: D) → Q (.returned (.slice (some ⟨g', 0, none⟩) (k + 1 + m + 1) c')) W') :
    Calls Try.prog 43 #[.slice (some ⟨gl, 0, none⟩) (k + 1 + m) c, .int .i64 (k : Int), .slice (some ⟨gv, 0, none⟩) 1 cv] W Q := by
  have HQ := Lib.hid hQ
  clear hQ
  have hle := hG.le
  have hmo : c ≤ 9223372036854775807 := by have := hG.most; simpa [maxLen] using this
  have hq := hG.hq
  clear hG
  have d1 : ((k : Int) == (k : Int) + 1 + (m : Int)) = false := by simp; omega
  have d2 : decide ((k : Int) + 1 + (m : Int) + 1 > (c : Int)) = false := decide_eq_false (by omega)
  have d3 : decide ((c : Int) < (k : Int) + 1 + (m : Int) + 1) = false := decide_eq_false (by omega)
  have n1 : ¬ c = k := by omega
  have n2 : ¬ c = k + 1 := by omega
  have hne : gv ≠ gl := fun e => hH.rows.2.1 _ (List.mem_cons_self ..) e.symm
  have r0 := (hH.rows.mem (i := 0) rfl).1
  have r1 := (hH.rows.mem (i := 1) rfl).1
  have hov : ∀ lb cb, (callFunc 76 #[.slice (some ⟨gv, 0, none⟩) 1 cv, .slice (some ⟨gl, (k + 1) * 20, none⟩) lb cb]).run Try.prog W = .ok (.value (.bool false)) W := fun lb cb => by
    rw [run_callFunc_extern Try.func76 (by kernel_rfl) (by kernel_rfl) (by kernel_rfl) (e := Extern.SlicesOverlaps.overlaps #[22, 22] #[4]) (by kernel_rfl),
      Lib.run_overlaps_apart W 22 4 30 Try.underlying22 20 (fun w => (by kernel_rfl : (Go.sizeOf 30).run Try.prog w = .ok 20 w)) ⟨gv, 0, none⟩ ⟨gl, (k + 1) * 20, none⟩ 1 cv lb cb hne _ _ _ _ r0.shape r1.shape (by simp [fls, oT.1, oX.1]) (r0.frozen _) (r0.frozen _)]
    rfl
  clear hne r0 r1
  have HOV := Lib.hid hov
  clear hov
  have hRl := oR.1
  have hXl := oX.1
  have hTl := oT.1
  have hVl := oV.1
  have hJl := oJ.1
  have oXR : ∀ v ∈ XK ++ R, v.oneCell' = true := fun v hv => by
    rcases List.mem_append.1 hv with hv | hv
    · exact oX.2 v hv
    · exact oR.2 v hv
  have oN : ∀ {Y : List Value}, OkA Y 20 → OkA (TK ++ (Y ++ (XK ++ R))) ((k + 1 + m + 1) * 20) := fun {Y} oY => ⟨by simp only [List.length_append]; rw [hTl, oY.1, hXl, hRl]; omega, fun v hv => by
    rcases List.mem_append.1 hv with hv | hv
    · exact oT.2 v hv
    · rcases List.mem_append.1 hv with hv | hv
      · exact oY.2 v hv
      · exact oXR v hv⟩
  have oJ2 : OkA (J.drop 20) (q - 20) := ⟨by rw [List.length_drop, hJl], fun v hv => oJ.2 v (List.mem_of_mem_drop hv)⟩
  have oN1 := oN oX
  have oN2 := oN oV
  have h20 : 20 ≤ q := by omega
  have hS1 : fls [.many (TK ++ (XK ++ R)) ((k + 1 + m) * 20), .many J q] = (TK ++ XK) ++ ((R ++ J.take 20) ++ J.drop 20) := by rw [fls_two]; simp [List.append_assoc, List.take_append_drop]
  have hj2 : (J.take 20).length = 20 := by rw [List.length_take, hJl]; omega
  have HO1 := Lib.hid (fun W (h : Hp B w0 W ((gv, 30, true, [.many V 20]) :: (gl, 30, true, [.many (TK ++ (XK ++ R)) ((k + 1 + m) * 20), .many J q]) :: D)) => h.oldS (i := 1) (o := k * 20) (C := XK ++ R) rfl ⟨TK, J, by simp [fls], hTl⟩)
  have HO2 := Lib.hid (fun W (h : Hp B w0 W ((gv, 30, true, [.many V 20]) :: (gl, 30, true, [.many (TK ++ (XK ++ (XK ++ R))) ((k + 1 + m + 1) * 20), .many (J.drop 20) (q - 20)]) :: D)) => h.oldS (i := 0) (o := 0) (C := V) rfl ⟨[], [], by simp [fls], rfl⟩)
  have n3 : ¬ c = k + 1 + m := by omega
  have HC1 := Lib.hid (show (XK ++ R).length = (m + 1) * 20 by rw [List.length_append, hXl, hRl]; omega)
  have HP1 := Lib.hid (show (TK ++ XK).length = (k + 1) * 20 by rw [List.length_append, hTl, hXl]; omega)
  have HL1 := Lib.hid (show (R ++ J.take 20).length = (XK ++ R).length by rw [List.length_append, List.length_append, hj2, hXl]; omega)
  have HS1 := Lib.hid hS1
  have HS2 := Lib.hid (show fls [.many (TK ++ (XK ++ (XK ++ R))) ((k + 1 + m + 1) * 20), .many (J.drop 20) (q - 20)] = TK ++ (XK ++ ((XK ++ R) ++ J.drop 20)) by rw [fls_two]; simp [List.append_assoc])
  have HV := Lib.hid oV
  have HT1 := Lib.hid hTl
  have HVX := Lib.hid (show XK.length = V.length by rw [hXl, hVl])
  have HN1 := Lib.hid oN1
  have HN2 := Lib.hid oN2
  have HXR := Lib.hid oXR
  have HJ2 := Lib.hid oJ2
  have HG2 := Lib.hid (show Grow 20 (k + 1 + m + 1) c ((k + 1 + m + 1) * 20) (q - 20) from ⟨rfl, by omega, by omega, by simpa [maxLen] using hmo⟩)
  clear hS1 hRl hXl hTl hVl hJl hj2 oXR oN oN1 oN2 oJ2 h20 oX oR oT oV oJ hq
  go_enter Try.func43, Try.ntmps43
  go_wp2_with (fail)
  rw [HOV.out, Oper.upon_value]
  go_wp2_with (fail)
  ((with_reducible refine regKN [8] hH (SubH.refl) (by kernel_rfl) ?_); (clear hH; intro W hH); (refine hk_pures (fuel := 1) (pk 0 rfl (pk 1 rfl (pk 2 rfl (pk 3 rfl (pk 4 rfl (pk 5 rfl (pk 6 rfl (pk 7 rfl (PickR.nil))))))))) (by kernel_rfl) (by kernel_rfl) (fun _ _ _ _ _ h => h) ?_; (repeat (go_big_quiet_step (fail))); refine hk_nil ?_); (refine hk_one (fuel := 0) 8 rfl (by kernel_rfl) ?_; go_wp2_with (first | ((refine hCpy 1 tab_ok tabs_ok rfl rfl rfl rfl rfl rfl hH rfl ?_; refine ⟨XK ++ R, TK ++ XK, R ++ J.take 20, J.drop 20, [.many (TK ++ (XK ++ (XK ++ R))) ((k + 1 + m + 1) * 20), .many (J.drop 20) (q - 20)], HO1.out _ hH, ?_, HXR.out, HS1.out, HP1.out, HL1.out, ⟨HN1.out, HJ2.out, trivial⟩, ?_, ?_⟩; (focus (rw [HC1.out]; simp only [Nat.min_def]; split <;> omega)); (focus (rw [HS2.out]; simp [List.append_assoc])); intro W H' hu h; (obtain rfl := Option.some.inj hu); clear hu hH; have hH := h; clear h; ((try simp only [Act.put, pA, pB, pC]))))); refine hkQ_break ?_; (try simp only [Act.put, pA, pB, pC])); refine hk_endN (by kernel_rfl) ?_)
  go_wp2_with (first | ((refine hCpy 1 tab_ok tabs_ok rfl rfl rfl rfl rfl rfl hH rfl ?_; refine ⟨V, TK, XK, (XK ++ R) ++ J.drop 20, [.many (TK ++ (V ++ (XK ++ R))) ((k + 1 + m + 1) * 20), .many (J.drop 20) (q - 20)], HO2.out _ hH, ?_, HV.out.2, HS2.out, HT1.out, HVX.out, ⟨HN2.out, HJ2.out, trivial⟩, ?_, ?_⟩; (focus (rw [HV.out.1]; simp only [Nat.min_def]; split <;> omega)); (focus (rw [fls_two]; simp [List.append_assoc])); intro W H' hu h; (obtain rfl := Option.some.inj hu); clear hu hH; have hH := h; clear h; ((try simp only [Act.put, pA, pB, pC])))))
  exact HQ.out _ _ _ _ _ HG2.out HJ2.out (hH.sub (SubH.drop SubH.refl))
set_option maxHeartbeats 4000000 in
theorem insGrow (hl : k + 1 + m ≤ 100000) (oJ : OkA J q) (oT : OkA TK (k * 20)) (oX : OkA XK 20) (oR : OkA R (m * 20)) (oV : OkA V 20)
    (hH : Hp B w0 W ((gv, 30, true, [.many V 20]) :: (gl, 30, true, [.many (TK ++ (XK ++ R)) ((k + 1 + m) * 20), .many J q]) :: D))
    (hQ : ∀ W' g' c' q' J', Grow 20 (k + 1 + m + 1) c' ((k + 1 + m + 1) * 20) q' → OkA J' q' → Hp B w0 W' ((g', 30, true, [.many (TK ++ (V ++ (XK ++ R))) ((k + 1 + m + 1) * 20), .many J' q']) :: D) → Q (.returned (.slice (some ⟨g', 0, none⟩) (k + 1 + m + 1) c')) W') :
    Calls Try.prog 43 #[.slice (some ⟨gl, 0, none⟩) (k + 1 + m) (k + 1 + m), .int .i64 (k : Int), .slice (some ⟨gv, 0, none⟩) 1 cv] W Q := by
  have HQ := Lib.hid hQ
  clear hQ
  have d1 : ((k : Int) == (k : Int) + 1 + (m : Int)) = false := by simp; omega
  have d2 : decide ((k : Int) + 1 + (m : Int) + 1 > (k : Int) + 1 + (m : Int)) = true := decide_eq_true (by omega)
  have d3 : decide ((k : Int) + 1 + (m : Int) < (k : Int) + 1 + (m : Int) + 1) = true := decide_eq_true (by omega)
  have n1 : ¬ k + 1 + m = k := by omega
  have n2 : ¬ k + 1 + m - k = 0 := by omega
  have hRl := oR.1
  have hXl := oX.1
  have hTl := oT.1
  have hVl := oV.1
  have oXR : ∀ v ∈ XK ++ R, v.oneCell' = true := fun v hv => by
    rcases List.mem_append.1 hv with hv | hv
    · exact oX.2 v hv
    · exact oR.2 v hv
  have HC1 := Lib.hid (show (XK ++ R).length = (m + 1) * 20 by rw [List.length_append, hXl, hRl]; omega)
  have HP1 := Lib.hid (show (TK ++ V).length = (k + 1) * 20 by rw [List.length_append, hTl, hVl]; omega)
  have HXR := Lib.hid oXR
  have HV := Lib.hid oV
  have HT1 := Lib.hid hTl
  have HOKT := Lib.hid oT
  have HS0 := Lib.hid (show fls [.many (TK ++ (XK ++ R)) ((k + 1 + m) * 20), .many J q] = TK ++ ((XK ++ R) ++ J) by rw [fls_two]; simp [List.append_assoc])
  have HO1 := Lib.hid (fun (W : World) (r1 r2 : Nat × TypeId × Bool × List Seg) (h : Hp B w0 W (r1 :: r2 :: (gl, 30, true, [.many (TK ++ (XK ++ R)) ((k + 1 + m) * 20), .many J q]) :: D)) => h.oldS (i := 2) (o := k * 20) (C := XK ++ R) rfl ⟨TK, J, by simp [fls], hTl⟩)
  have HO2 := Lib.hid (fun (W : World) (r1 : Nat × TypeId × Bool × List Seg) (D' : HB) (h : Hp B w0 W (r1 :: (gv, 30, true, [.many V 20]) :: D')) => h.oldS (i := 1) (o := 0) (C := V) rfl ⟨[], [], by simp [fls], rfl⟩)
  have HNZ := Lib.hid (show ∀ Z : List Value, OkA Z ((m + 2) * 20) → (Z.take 20).length = V.length ∧ (Z.drop 20).length = (XK ++ R).length ∧ OkA (TK ++ (V ++ Z.drop 20)) ((k + (m + 2)) * 20) ∧ TK ++ Z = TK ++ (Z.take 20 ++ Z.drop 20) from fun Z hZ => ⟨by rw [List.length_take, hZ.1, hVl]; omega, by rw [List.length_drop, hZ.1, List.length_append, hXl, hRl]; omega, ⟨by simp only [List.length_append, List.length_drop]; rw [hTl, hVl, hZ.1]; omega, fun v hv => by
    rcases List.mem_append.1 hv with hv | hv
    · exact oT.2 v hv
    · rcases List.mem_append.1 hv with hv | hv
      · exact oV.2 v hv
      · exact hZ.2 v (List.mem_of_mem_drop hv)⟩, by rw [List.take_append_drop]⟩)
  have HN2 := Lib.hid (show OkA (TK ++ (V ++ (XK ++ R))) ((k + (m + 2)) * 20) from ⟨by simp only [List.length_append]; rw [hTl, hVl, hXl, hRl]; omega, fun v hv => by
    rcases List.mem_append.1 hv with hv | hv
    · exact oT.2 v hv
    · rcases List.mem_append.1 hv with hv | hv
      · exact oV.2 v hv
      · exact oXR v hv⟩)
  clear hRl hXl hTl hVl oXR oX oR oT oV oJ
  go_enter Try.func43, Try.ntmps43
  go_wp2_with (first | ((refine hApZ 1 tab_ok tabs_ok rfl rfl rfl rfl rfl Try.underlying3 rfl rfl hH rfl rfl ?_; refine ⟨m + 2, TK, (XK ++ R) ++ J, ?_, HS0.out, HT1.out, ?_, ?_, ?_, ?_⟩; (focus (first | omega | (push_cast; omega))); (focus omega); (focus omega); (focus omega); clear hH; intro W g c q Z J' hG hZ hJ' hH; (have hle := hG.le); (have hmo : c ≤ 9223372036854775807 := by have := hG.most; simpa [maxLen] using this); (have n5 : ¬ c = k := by omega); (have n6 : ¬ c = k + 1 := by omega); ((try simp only [Act.put, pA, pB, pC])))) | ((refine hCpy 0 tab_ok tabs_ok rfl rfl rfl rfl rfl rfl hH rfl ?_; refine ⟨V, TK, Z.take 20, Z.drop 20 ++ J', [.many (TK ++ (V ++ Z.drop 20)) ((k + (m + 2)) * 20), .many J' q], HO2.out _ _ _ hH, ?_, HV.out.2, ?_, HT1.out, (HNZ.out _ hZ).1, ⟨(HNZ.out _ hZ).2.2.1, hJ', trivial⟩, ?_, ?_⟩; (focus (rw [HV.out.1]; simp only [Nat.min_def]; split <;> omega)); (focus (rw [fls_two, (HNZ.out _ hZ).2.2.2]; simp only [List.append_assoc])); (focus (rw [fls_two]; simp [List.append_assoc])); intro W H' hu h; (obtain rfl := Option.some.inj hu); clear hu hH; have hH := h; clear h; ((try simp only [Act.put, pA, pB, pC])))))
  ((with_reducible refine regKN [8] hH (SubH.refl) (by kernel_rfl) ?_); (clear hH; intro W hH); (refine hk_pures (fuel := 1) (pk 0 rfl (pk 1 rfl (pk 2 rfl (pk 3 rfl (pk 4 rfl (pk 5 rfl (pk 6 rfl (pk 7 rfl (PickR.nil))))))))) (by kernel_rfl) (by kernel_rfl) (fun _ _ _ _ _ h => h) ?_; (repeat (go_big_quiet_step (fail))); refine hk_nil ?_); (refine hk_one (fuel := 0) 8 rfl (by kernel_rfl) ?_; go_wp2_with (first | ((refine hCpy 0 tab_ok tabs_ok rfl rfl rfl rfl rfl rfl hH rfl ?_; refine ⟨XK ++ R, TK ++ V, Z.drop 20, J', [.many (TK ++ (V ++ (XK ++ R))) ((k + (m + 2)) * 20), .many J' q], HO1.out _ _ _ hH, ?_, HXR.out, ?_, HP1.out, (HNZ.out _ hZ).2.1, ⟨HN2.out, hJ', trivial⟩, ?_, ?_⟩; (focus (rw [HC1.out]; simp only [Nat.min_def]; split <;> omega)); (focus (rw [fls_two]; simp only [List.append_assoc])); (focus (rw [fls_two]; simp only [List.append_assoc])); intro W H' hu h; (obtain rfl := Option.some.inj hu); clear hu hH; have hH := h; clear h; ((try simp only [Act.put, pA, pB, pC]))))); refine hkQ_break ?_; (try simp only [Act.put, pA, pB, pC])); refine hk_endN (by kernel_rfl) ?_)
  go_wp2_with (fail)
  rw [show k + (m + 2) = k + 1 + m + 1 by omega] at hG hH ⊢
  exact HQ.out _ _ _ _ _ hG hJ' (hH.sub (SubH.keep (SubH.drop (SubH.drop SubH.refl))))
theorem hIns {X : List Ev} {y : Ev} {SV : List Seg} (hk : k ≤ X.length) (hl : X.length ≤ 100000) (hG : Grow 20 X.length c (X.length * 20) q) (oJ : OkA J q) (hSV : fls SV = fls (evS y))
    (hH : Hp B w0 W ((gv, 30, true, SV) :: (gl, 30, true, [.many (evsL X) (X.length * 20), .many J q]) :: D))
    (hQ : ∀ W' g' c' q' J', Grow 20 (X.length + 1) c' ((X.length + 1) * 20) q' → OkA J' q' → Hp B w0 W' ((g', 30, true, [.many (evsL (X.take k ++ y :: X.drop k)) ((X.length + 1) * 20), .many J' q']) :: D) → Q (.returned (.slice (some ⟨g', 0, none⟩) (X.length + 1) c')) W') :
    Calls Try.prog 43 #[.slice (some ⟨gl, 0, none⟩) X.length c, .int .i64 (k : Int), .slice (some ⟨gv, 0, none⟩) 1 cv] W Q := by
  have oV : OkA (fls (evS y)) 20 := ⟨evS_fls_len y, okS_one (evS_ok y)⟩
  have hH := hH.re0 (S' := [.many (fls (evS y)) 20]) (by rw [fls1, hSV]) ⟨oV, trivial⟩
  rw [evsL_app, evsL_cons] at hQ
  by_cases hn : k = X.length
  · subst hn
    rw [List.take_of_length_le (Nat.le_refl _), List.drop_of_length_le (Nat.le_refl _)] at hQ
    refine insEnd hl hG oJ oV hH (fun W' g' c' q' J' h1 h2 h3 => hQ W' g' c' q' J' h1 h2 ?_)
    have e0 : evsL ([] : List Ev) = [] := rfl
    rw [e0, List.append_nil]
    exact h3
  · have hk2 : k < X.length := by omega
    obtain ⟨m, hm⟩ : ∃ m, X.length = k + 1 + m := ⟨X.length - (k + 1), by omega⟩
    have hd : X.drop k = X[k] :: X.drop (k + 1) := List.drop_eq_getElem_cons hk2
    have e0 : evsL X = evsL (X.take k) ++ (fls (evS X[k]) ++ evsL (X.drop (k + 1))) := by rw [← evsL_cons, ← hd, ← evsL_app, List.take_append_drop]
    have oT : OkA (evsL (X.take k)) (k * 20) := by have := evsL_ok (X.take k); rwa [List.length_take, Nat.min_eq_left hk] at this
    have oX : OkA (fls (evS X[k])) 20 := ⟨evS_fls_len _, okS_one (evS_ok _)⟩
    have oR : OkA (evsL (X.drop (k + 1))) (m * 20) := by have := evsL_ok (X.drop (k + 1)); rwa [List.length_drop, show X.length - (k + 1) = m by omega] at this
    rw [hd, evsL_cons] at hQ
    rw [e0] at hH
    rw [hm] at hH hG hQ hl ⊢
    by_cases hc : c = k + 1 + m
    · subst hc
      exact insGrow hl oJ oT oX oR oV hH hQ
    · exact insMid hl hG oJ oT oX oR oV (by have := hG.le; omega) hH hQ
theorem hIns0 {y : Ev} {SV : List Seg} (hSV : fls SV = fls (evS y))
    (hH : Hp B w0 W ((gv, 30, true, SV) :: D))
    (hQ : ∀ W' g' c' q' J', Grow 20 1 c' 20 q' → OkA J' q' → Hp B w0 W' ((g', 30, true, [.many (evsL [y]) 20, .many J' q']) :: D) → Q (.returned (.slice (some ⟨g', 0, none⟩) 1 c')) W') :
    Calls Try.prog 43 #[.slice none 0 0, .int .i64 0, .slice (some ⟨gv, 0, none⟩) 1 cv] W Q := by
  have oV : OkA (fls (evS y)) 20 := ⟨evS_fls_len y, okS_one (evS_ok y)⟩
  have hH := hH.re0 (S' := [.many (fls (evS y)) 20]) (by rw [fls1, hSV]) ⟨oV, trivial⟩
  refine insNil oV hH (fun W' g' c' q' J' h1 h2 h3 => hQ W' g' c' q' J' h1 h2 ?_)
  have e0 : evsL [y] = fls (evS y) := by rw [evsL_cons, show evsL ([] : List Ev) = [] from rfl, List.append_nil]
  rw [e0]
  exact h3
end
end
end Go.Proofs.Ytdbdlhmgokllaaa
