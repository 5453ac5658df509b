/-
  Messages: as data, and where they lie in memory.
-/
import Derived.Test.YtknlhhmcidimaaaAo
import Derived.Test.YtknlhhmcidimaaaTabs
import Derived.Deep.Slices
namespace Go.Proofs.Ytknlhhmcidimaaa
open Go.ChangeShapes Go.WideShapes Go.ChangeAt Go.RowKit
set_option linter.unusedVariables false
set_option linter.unusedSimpArgs false
set_option maxRecDepth 20000
attribute [local irreducible] wpList

def inI (n : Int) : Prop := -9223372036854775808 ≤ n ∧ n ≤ 9223372036854775807
structure MgOk (node epoch kind ack seq : Int) (body : ByteArray) : Prop where
  node : inI node
  epoch : 0 ≤ epoch ∧ epoch < 4294967296
  kind : inI kind
  ack : 0 ≤ ack ∧ ack < 4294967296
  seq : 0 ≤ seq ∧ seq < 4294967296
  body : body.size ≤ 9223372036854775807
/-- a message, as data -/
structure Mg where
  node : Int
  up : Bool
  epoch : Int
  kind : Int
  ack : Int
  seq : Int
  body : ByteArray
  h : MgOk node epoch kind ack seq body
theorem Mg.ext2 {a c : Mg} (h : a.node = c.node ∧ a.up = c.up ∧ a.epoch = c.epoch ∧ a.kind = c.kind ∧ a.ack = c.ack ∧ a.seq = c.seq ∧ a.body = c.body) : a = c := by
  cases a; cases c; simp at h; obtain ⟨rfl, rfl, rfl, rfl, rfl, rfl, rfl⟩ := h; rfl
instance : DecidableEq Mg := fun a c => if h : a.node = c.node ∧ a.up = c.up ∧ a.epoch = c.epoch ∧ a.kind = c.kind ∧ a.ack = c.ack ∧ a.seq = c.seq ∧ a.body = c.body then .isTrue (Mg.ext2 h) else .isFalse (fun e => h (by subst e; exact ⟨rfl, rfl, rfl, rfl, rfl, rfl, rfl⟩))
def mgS (m : Mg) : List Seg := [.one (.int .i64 m.node), .one (.bool m.up), .one (.int .u32 m.epoch), .one (.int .i64 m.kind), .one (.int .u32 m.ack), .one (.int .u32 m.seq), .one (.string m.body)]
theorem mgS_ok (m : Mg) : okS (mgS m) := ⟨rfl, rfl, rfl, rfl, rfl, rfl, rfl, trivial⟩
theorem mgS_len (m : Mg) : lenS (mgS m) = 7 := rfl
def mgL (m : Mg) : List Value := fls (mgS m)
theorem mgL_len (m : Mg) : (mgL m).length = 7 := rfl
theorem mgL_ok (m : Mg) : OkA (mgL m) 7 := okA_fls (mgS_ok m) rfl
theorem mgOk_z : MgOk 0 0 0 0 0 ⟨#[]⟩ := ⟨⟨by decide, by decide⟩, ⟨by decide, by decide⟩, ⟨by decide, by decide⟩, ⟨by decide, by decide⟩, ⟨by decide, by decide⟩, by decide⟩
def Mg.z : Mg := ⟨0, false, 0, 0, 0, 0, ⟨#[]⟩, mgOk_z⟩
theorem lits_u32 {P : Program} {t : TypeId} {d : Nat} {n : Int} (hu : P.underlying t = some (.int .u32)) (h : 0 ≤ n ∧ n < 4294967296) : P.keyLits (d + 1) t [.int .u32 n] = some [.int .u32 n] := by
  unfold Program.keyLits
  rw [hu]
  simp only [true_and]
  rw [if_pos]
  simp only [Lit.wf, Bool.and_eq_true, decide_eq_true_eq]
  exact ⟨show (0 : Int) ≤ _ by omega, show _ ≤ (4294967295 : Int) by omega⟩
def mgLits (m : Mg) : List Lit := [.int .i64 m.node, .bool m.up, .int .u32 m.epoch, .int .i64 m.kind, .int .u32 m.ack, .int .u32 m.seq, .string m.body.data.toList]
theorem mg_lits (m : Mg) : Try.prog.keyLits 9 30 (mgL m) = some (mgLits m) := by
  have ci : Try.prog.cellsOf 3 = 1 := by kernel_rfl
  have cu : Try.prog.cellsOf 28 = 1 := by kernel_rfl
  have cb : Try.prog.cellsOf 4 = 1 := by kernel_rfl
  have cs : Try.prog.cellsOf 9 = 1 := by kernel_rfl
  have h := lits_struct (d := 8) (cs := mgL m) (ls := [[Lit.int .i64 m.node], [Lit.bool m.up], [Lit.int .u32 m.epoch], [Lit.int .i64 m.kind], [Lit.int .u32 m.ack], [Lit.int .u32 m.seq], [Lit.string m.body.data.toList]]) Try.underlying30 (by rw [mgL_len]; kernel_rfl) (by kernel_rfl) (by
    simp only [List.mapM_cons, List.mapM_nil, mgL, mgS, fls, List.drop_zero, List.drop_succ_cons, ci, cu, cb, cs, List.take_succ_cons, List.take_zero]
    rw [lits_i64 Try.underlying3 m.h.node, lits_bool Try.underlying4, lits_u32 Try.underlying28 m.h.epoch, lits_i64 Try.underlying3 m.h.kind, lits_u32 Try.underlying28 m.h.ack, lits_u32 Try.underlying28 m.h.seq, lits_str Try.underlying9 m.h.body]
    rfl)
  rw [h]
  rfl
theorem mg_formed (m : Mg) : (Value.agg (mgL m).toArray).formed Try.prog 30 = true := by
  unfold Value.formed
  rw [Try.underlying30]
  simp only [List.size_toArray, mgL_len, beq_iff_eq]
  kernel_rfl
theorem mg_inj {a c : Mg} : (a == c) = true ↔ mgLits a = mgLits c := by
  rw [beq_iff_eq]
  constructor
  · rintro rfl; rfl
  · intro h
    simp [mgLits] at h
    obtain ⟨h1, h2, h3, h4, h5, h6, h7⟩ := h
    exact Mg.ext2 ⟨h1, h2, h3, h4, h5, h6, by cases ha : a.body; cases hc : c.body; rw [ha, hc] at h7; simp at h7; rw [h7]⟩
theorem mg_eql (a c : Mg) (w : World) : (binOp .eql 30 (.agg (fls (mgS a)).toArray) (.agg (fls (mgS c)).toArray)).run Try.prog w = .ok (.bool (a == c)) w :=
  eql_cells (by kernel_rfl) (mg_formed a) (mg_formed c) (mg_lits a) (mg_lits c) _ mg_inj w
theorem mg_neq (a c : Mg) (w : World) : (binOp .neq 30 (.agg (fls (mgS a)).toArray) (.agg (fls (mgS c)).toArray)).run Try.prog w = .ok (.bool (a != c)) w :=
  neq_cells (by kernel_rfl) (mg_formed a) (mg_formed c) (mg_lits a) (mg_lits c) _ mg_inj w
/-! ### in memory -/
def MgsAt (w : World) (p : Option Addr) (L : List Mg) : Prop := L.length ≤ 9223372036854775807 ∧ ∀ i (h : i < L.length), ∃ q, p = some q ∧ OldR w (q.add (i * 7)) (fls (mgS L[i]))
theorem MgsAt.below {w W : World} {p : Option Addr} {L : List Mg} (h : MgsAt w p L) (hb : Below w.heap.size w W) : MgsAt W p L :=
  ⟨h.1, fun i hi => by obtain ⟨q, h1, h2⟩ := h.2 i hi; exact ⟨q, h1, h2.below hb⟩⟩
theorem MgsAt.get {w : World} {p : Option Addr} {L : List Mg} (h : MgsAt w p L) {j : Nat} (hj : j < L.length) : ∃ q, p = some q ∧ OldR w (q.add (j * 7)) (fls (mgS L[j])) := h.2 j hj
theorem MgsAt.nil {w : World} {p : Option Addr} : MgsAt w p [] := ⟨by simp, fun i h => by simp at h⟩
def mgsL (L : List Mg) : List Value := L.flatMap mgL
theorem mgsL_len : ∀ L : List Mg, (mgsL L).length = L.length * 7
  | [] => rfl
  | a :: L => by
    have := mgsL_len L
    simp only [mgsL, List.flatMap_cons, List.length_append, List.length_cons] at *
    rw [mgL_len]
    omega
theorem mgsL_one (L : List Mg) : ∀ v ∈ mgsL L, v.oneCell' = true := fun v hv => by obtain ⟨a, _, ha⟩ := List.mem_flatMap.1 hv; exact (mgL_ok a).2 v ha
theorem mgsL_ok (L : List Mg) : OkA (mgsL L) (L.length * 7) := ⟨mgsL_len L, mgsL_one L⟩
theorem mgsL_app (L M : List Mg) : mgsL (L ++ M) = mgsL L ++ mgsL M := by simp [mgsL]
theorem mgsL_snoc (L : List Mg) (a : Mg) : mgsL (L ++ [a]) = mgsL L ++ mgL a := by simp [mgsL]
theorem mgsL_drop : ∀ (L : List Mg) (k : Nat), mgsL (L.drop k) = (mgsL L).drop (k * 7)
  | L, 0 => by simp
  | [], k + 1 => by simp [mgsL]
  | a :: L, k + 1 => by
    rw [List.drop_succ_cons, mgsL_drop L k, show (k + 1) * 7 = 7 + k * 7 by omega, ← List.drop_drop]
    congr 1
theorem mgsL_take : ∀ (L : List Mg) (k : Nat), mgsL (L.take k) = (mgsL L).take (k * 7)
  | L, 0 => by simp [mgsL]
  | [], k + 1 => by simp [mgsL]
  | a :: L, k + 1 => by
    rw [List.take_succ_cons]
    show mgL a ++ mgsL (L.take k) = (mgL a ++ mgsL L).take ((k + 1) * 7)
    rw [mgsL_take L k, show (k + 1) * 7 = (mgL a).length + k * 7 by rw [mgL_len]; omega, List.take_length_add_append]
theorem mgsL_at {L : List Mg} {k : Nat} (hk : k < L.length) : AtL (mgsL L) (k * 7) (fls (mgS L[k])) := by
  refine ⟨mgsL (L.take k), mgsL (L.drop (k + 1)), ?_, ?_⟩
  · have : L = L.take k ++ (L[k] :: L.drop (k + 1)) := by rw [← List.drop_eq_getElem_cons hk, List.take_append_drop]
    have e : mgsL L = mgsL (L.take k ++ (L[k] :: L.drop (k + 1))) := congrArg mgsL this
    rw [e]
    simp only [mgsL, List.flatMap_append, List.flatMap_cons]
    rfl
  · rw [mgsL_len, List.length_take]; congr 1; omega
theorem AtL.app {C A R : List Value} {o : Nat} (h : AtL C o A) : AtL (C ++ R) o A := by
  obtain ⟨pre, post, h1, h2⟩ := h
  exact ⟨pre, post ++ R, by rw [h1]; simp, h2⟩
theorem AtL.cell {C A : List Value} {o j : Nat} {v : Value} (h : AtL C o A) (hv : A[j]? = some v) : CellA C (o + j) v := by
  obtain ⟨pre, post, rfl, rfl⟩ := h
  unfold CellA
  rw [List.getElem?_append_right (by omega), Nat.add_sub_cancel_left, List.getElem?_append_left (List.getElem?_eq_some_iff.1 hv).1]
  exact hv
theorem row_old {W : World} {g : Nat} {t : TypeId} {C A : List Value} {o : Nat} (hr : Row W g t C.toArray) (h : AtL C o A) : OldR W ((⟨g, 0, none⟩ : Addr).add o) A := by
  obtain ⟨pre, post, h1, h2⟩ := h
  refine OldR.part (pre := pre) (post := post) (C := C) ⟨fun j v hv => ?_, hr.lt⟩ h1 h2
  rw [show (⟨g, 0, none⟩ : Addr).add j = ⟨g, j, none⟩ by unfold Addr.add; split <;> simp_all, hr.cell, List.getElem?_toArray]
  exact hv
theorem mgsAt_row {W : World} {g : Nat} {t : TypeId} {L : List Mg} {J : List Value} (hl : L.length ≤ 9223372036854775807) (hr : Row W g t (mgsL L ++ J).toArray) : MgsAt W (some ⟨g, 0, none⟩) L :=
  ⟨hl, fun i hi => ⟨_, rfl, row_old hr (mgsL_at hi).app⟩⟩
/-! ### arguments -/
theorem one_at {L : List Value} {i : Nat} {v : Value} (h : (L.drop i).take 1 = [v]) : L[i]? = some v := by
  have := congrArg (fun l => l[0]?) h
  simpa using this
theorem oldR_of {W : World} {a : Addr} {base n k : Nat} {cs' : List Value} (h1 : W.cells? base (a.add n) k = some cs') (hk : 0 < k) : OldR W (a.add n) cs' := by
  obtain ⟨_, hlen, hcell⟩ := World.cells?_some h1
  refine ⟨fun j x hj => ?_, ?_⟩
  · have hjk : j < k := by rw [← hlen]; exact (List.getElem?_eq_some_iff.1 hj).1
    rw [hcell j hjk]; exact hj
  · have h0 := hcell 0 hk
    rw [List.getElem?_eq_getElem (by omega)] at h0
    have := cell_lt1 h0
    rwa [add_block] at this
section
variable {H : Type} {enc : TypeId × Value → H} {W : World} {base : Nat} {spare : Nat → Bool} {held : Bool} {fuel : Nat} {cs : List Value} {x : DataW H × List MemPlace}
theorem trod_u32 {t : TypeId} {n : Nat} {vs : List Value} {y : DataW H × List MemPlace} (hu : Try.prog.underlying t = some (.int .u32)) (h : DataW.trod enc Try.prog W base spare held n t vs = some y) : ∃ k : Int, vs = [.int .u32 k] ∧ 0 ≤ k ∧ k < 4294967296 := by
  obtain ⟨k, hk, _, hw⟩ := DataW.trod_int hu h
  simp only [Lit.wf, Bool.and_eq_true, decide_eq_true_eq] at hw
  have h1 : 0 ≤ k := hw.1
  have h2 : k ≤ 4294967295 := hw.2
  exact ⟨k, hk, h1, by omega⟩
theorem trod_i64 {t : TypeId} {n : Nat} {vs : List Value} {y : DataW H × List MemPlace} (hu : Try.prog.underlying t = some (.int .i64)) (h : DataW.trod enc Try.prog W base spare held n t vs = some y) : ∃ k : Int, vs = [.int .i64 k] ∧ inI k := by
  obtain ⟨k, hk, _, hw⟩ := DataW.trod_int hu h
  simp only [Lit.wf, Bool.and_eq_true, decide_eq_true_eq] at hw
  exact ⟨k, hk, hw⟩
theorem mg_trod (h : DataW.trod enc Try.prog W base spare held fuel 30 cs = some x) : ∃ m : Mg, cs = mgL m := by
  obtain ⟨xs, n, rfl, _, hl, hxl, hf⟩ := DataW.trod_struct Try.underlying30 h
  have hl : cs.length = 7 := by rw [hl]; kernel_rfl
  have hxl : xs.length = 7 := hxl
  have ci : Try.prog.cellsOf 3 = 1 := by kernel_rfl
  have cu : Try.prog.cellsOf 28 = 1 := by kernel_rfl
  have cb : Try.prog.cellsOf 4 = 1 := by kernel_rfl
  have cc : Try.prog.cellsOf 9 = 1 := by kernel_rfl
  have g0 := hf 0 _ rfl
  have g1 := hf 1 _ rfl
  have g2 := hf 2 _ rfl
  have g3 := hf 3 _ rfl
  have g4 := hf 4 _ rfl
  have g5 := hf 5 _ rfl
  have g6 := hf 6 _ rfl
  change DataW.trod enc Try.prog W base spare held n 3 ((cs.drop 0).take (Try.prog.cellsOf 3)) = xs[0]? at g0
  change DataW.trod enc Try.prog W base spare held n 4 ((cs.drop 1).take (Try.prog.cellsOf 4)) = xs[1]? at g1
  change DataW.trod enc Try.prog W base spare held n 28 ((cs.drop 2).take (Try.prog.cellsOf 28)) = xs[2]? at g2
  change DataW.trod enc Try.prog W base spare held n 3 ((cs.drop 3).take (Try.prog.cellsOf 3)) = xs[3]? at g3
  change DataW.trod enc Try.prog W base spare held n 28 ((cs.drop 4).take (Try.prog.cellsOf 28)) = xs[4]? at g4
  change DataW.trod enc Try.prog W base spare held n 28 ((cs.drop 5).take (Try.prog.cellsOf 28)) = xs[5]? at g5
  change DataW.trod enc Try.prog W base spare held n 9 ((cs.drop 6).take (Try.prog.cellsOf 9)) = xs[6]? at g6
  rw [ci, List.getElem?_eq_getElem (show 0 < xs.length by omega)] at g0
  rw [cb, List.getElem?_eq_getElem (show 1 < xs.length by omega)] at g1
  rw [cu, List.getElem?_eq_getElem (show 2 < xs.length by omega)] at g2
  rw [ci, List.getElem?_eq_getElem (show 3 < xs.length by omega)] at g3
  rw [cu, List.getElem?_eq_getElem (show 4 < xs.length by omega)] at g4
  rw [cu, List.getElem?_eq_getElem (show 5 < xs.length by omega)] at g5
  rw [cc, List.getElem?_eq_getElem (show 6 < xs.length by omega)] at g6
  obtain ⟨k0, h0, w0⟩ := trod_i64 Try.underlying3 g0
  obtain ⟨k1, h1, _⟩ := DataW.trod_bool Try.underlying4 g1
  obtain ⟨k2, h2, w2⟩ := trod_u32 Try.underlying28 g2
  obtain ⟨k3, h3, w3⟩ := trod_i64 Try.underlying3 g3
  obtain ⟨k4, h4, w4⟩ := trod_u32 Try.underlying28 g4
  obtain ⟨k5, h5, w5⟩ := trod_u32 Try.underlying28 g5
  obtain ⟨s, h6, _, w6⟩ := DataW.trod_string Try.underlying9 g6
  have w6 : s.size ≤ 9223372036854775807 := by simpa [maxLen] using w6
  refine ⟨⟨k0, k1, k2, k3, k4, k5, s, ⟨w0, w2, w3, w4, w5, w6⟩⟩, ?_⟩
  match cs, hl with
  | [c0, c1, c2, c3, c4, c5, c6], _ =>
    simp at h0 h1 h2 h3 h4 h5 h6
    subst h0; subst h1; subst h2; subst h3; subst h4; subst h5; subst h6
    rfl
theorem mgs_trod (h : DataW.trod enc Try.prog W base (fun _ => true) held fuel 22 cs = some x) : ∃ (p : Option Addr) (L : List Mg) (c : Nat), cs = [.slice p L.length c] ∧ MgsAt W p L := by
  have c7 : Try.prog.cellsOf 30 = 7 := by kernel_rfl
  rcases Go.Deep.open_slice Try.underlying22 h with ⟨hc, _⟩ | ⟨a, len, cap, m, n, D, Pl, hc, _, hlc, hcm, hm, hx, hcells⟩
  · exact ⟨none, [], 0, hc, MgsAt.nil⟩
  · simp only [if_true] at hm
    rw [c7] at hcells
    have each : ∀ i : Fin len, ∃ q : Mg, OldR W (a.add (i.1 * 7)) (fls (mgS q)) := fun i => by
      obtain ⟨cs', h1, h2⟩ := hcells i.1 (by have := i.2; omega)
      obtain ⟨q, rfl⟩ := mg_trod h2
      exact ⟨q, oldR_of h1 (by omega)⟩
    obtain ⟨q, hq⟩ := Classical.axiomOfChoice each
    have hcm : cap ≤ 9223372036854775807 := by simpa only [maxLen] using hcm
    refine ⟨some a, List.ofFn q, cap, by rw [hc]; simp, ⟨by simp; omega, fun i hi => ⟨a, rfl, ?_⟩⟩⟩
    have := hq ⟨i, by simpa using hi⟩
    rw [List.getElem_ofFn]
    exact this
end
end Go.Proofs.Ytknlhhmcidimaaa
