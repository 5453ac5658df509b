/-
  'SumPseudo': the bytes ahead of what is summed, of any two addresses, protocol and size: the law.
-/
import Derived.Test.YtelbaoiihbhdpaaPseudo
namespace Go.Proofs.Ytelbaoiihbhdpaa
open Go.ChangeShapes Go.WideShapes Go.ChangeAt Go.RowKit
set_option linter.unusedVariables false
set_option linter.unusedSimpArgs false

theorem quiet_load_bw {P : Program} {B : Nat} {W : World} {K : Act → Prop} {o : Oper} {a : Act} {ty : TypeId} {x : Operand} {p v : Value} (h : ∀ y : BW B W, (Instr.loadAt ty p).run P y.w = .ok v y.w) (ho : o.op = .load ty x) (hx : a.eval x = p)
    (hk : K (a.put o.dst v)) : o.quiet P a (fun w' => ∃ y : BW B W, w' = y.w) K := quiet_load ho hx (fun w hw => by obtain ⟨y, rfl⟩ := hw; exact h y) hk
/-- a struct of rows by value, boxed, and one of its parts read whole -/
theorem run_part {w : World} {g o : Nat} {t ty : TypeId} {cs A : Array Value} {pre post : List Value} {d : TypeDesc} (hr : Row w g t cs) (hcs : cs.toList = pre ++ (A.toList ++ post)) (ho : pre.length = o)
    (hu : Try.prog.underlying ty = some d) (hd : d.isRow = true) (hi : (Try.prog.info? ty).map (·.size) = some A.size) :
    (Instr.loadAt ty (.pointer (some ⟨g, o, none⟩))).run Try.prog w = .ok (.agg A) w := by
  have h := run_loadAt_mid (P := Try.prog) w g o ty A.toList d (fun j v hj => ?_) hu hd (by simpa using hi)
  · simpa using h
  · rw [hr.cell, ← Array.getElem?_toList, hcs, List.getElem?_append_right (by omega), show o + j - pre.length = j by omega]
    rw [List.getElem?_append_left (List.getElem?_eq_some_iff.1 hj).1]
    exact hj
theorem pseudo_walk {cs A B : Array Value} {va vb : Bool} {la lb : List UInt8} {pi ni : Int} {w : World} (hA : AddrC A va la) (hB : AddrC B vb lb) (hcs : cs.toList = A.toList ++ (B.toList ++ [.int .i64 pi, .int .i64 ni])) :
    Gives Try.prog 7 #[.agg cs] w (.bool true) := by
  refine Gives.of ?_
  obtain ⟨p, hp, hp2⟩ := u64_any pi
  obtain ⟨n, hn, hn2⟩ := u64_any ni
  have h1 : ∀ w, Gives Try.prog 22 #[.agg A, .agg B, .int .i64 pi, .int .i64 ni] w (.string (pseudoB (va || vb) la lb p n)) := fun w => pseudo_any hA hB hp hp2 hn hn2
  have h2 : ∀ w, Gives Try.prog 23 #[.agg A, .agg B, .int .i64 pi, .int .i64 ni] w (.string (pseudoB (va || vb) la lb p n)) := fun w => rpseudo_any hA hB hp hp2 hn hn2
  generalize pseudoB (va || vb) la lb p n = r at *
  have sA : A.toList.length = 17 := by rw [Array.length_toList]; exact hA.size
  have sB : B.toList.length = 17 := by rw [Array.length_toList]; exact hB.size
  have hr := Row.new w 45 cs
  have lA : ∀ y : BW (w.alloc (.cells cs 45)).heap.size (w.alloc (.cells cs 45)), (Instr.loadAt 43 (.pointer (some ⟨w.heap.size, 0, none⟩))).run Try.prog y.w = .ok (.agg A) y.w := fun y =>
    run_part (pre := []) (hr.bw (x := y) (by simp)) hcs rfl Try.underlying43 rfl (by rw [hA.size]; kernel_rfl)
  have lB : ∀ y : BW (w.alloc (.cells cs 45)).heap.size (w.alloc (.cells cs 45)), (Instr.loadAt 43 (.pointer (some ⟨w.heap.size, 17, none⟩))).run Try.prog y.w = .ok (.agg B) y.w := fun y =>
    run_part (pre := A.toList) (hr.bw (x := y) (by simp)) hcs sA Try.underlying43 rfl (by rw [hB.size]; kernel_rfl)
  have c34 : cs[34]? = some (.int .i64 pi) := by
    rw [← Array.getElem?_toList, hcs, List.getElem?_append_right (by omega), List.getElem?_append_right (by omega), sA, sB]; rfl
  have c35 : cs[35]? = some (.int .i64 ni) := by
    rw [← Array.getElem?_toList, hcs, List.getElem?_append_right (by omega), List.getElem?_append_right (by omega), sA, sB]; rfl
  clear hr hcs sA sB hA hB
  go_enter Try.func7, Try.ntmps7
  go_wp2
  ((with_reducible first | refine wp_region_bx (Nat.le_refl _) (by kernel_rfl) (by kernel_rfl) ?_ | refine wp_region_bw (by kernel_rfl) (by kernel_rfl) ?_); (repeat (first | (go_big_quiet_want; refine quiet_load_bw lA rfl rfl ?_; go_simp; go_big_quiet_on) | (go_big_quiet_want; refine quiet_load_bw lB rfl rfl ?_; go_simp; go_big_quiet_on) | go_big_quiet_step (((with_reducible apply Gives.bw (Nat.le_refl _)); first | (with_reducible exact h1 _) | (with_reducible exact h2 _) | (with_reducible exact lives02_any))))); refine wpQuiet_nil ?_; rintro _ ⟨x, rfl⟩)
  go_wp2
  go_ret
  exact ⟨rfl, by (first | (simp; done) | (repeat (first | assumption | exact Below.refl _ _ | (refine below_bw _ ?_ ?_; rotate_left; focus ((first | omega | (repeat (first | assumption | exact Nat.le_refl _ | refine BW.le_of ?_ | refine le_alloc ?_ | refine le_drew ?_ | refine le_drewN ?_ | refine le_set ?_ | refine le_plus ?_ ))))) | (refine Below.alloc ?_ ?_ _; rotate_left; focus ((first | omega | (repeat (first | assumption | exact Nat.le_refl _ | refine BW.le_of ?_ | refine le_alloc ?_ | refine le_drew ?_ | refine le_drewN ?_ | refine le_set ?_ | refine le_plus ?_ ))))) | (refine Below.setCell ?_ ?_ _; rotate_left; focus ((first | omega | (repeat (first | assumption | exact Nat.le_refl _ | refine BW.le_of ?_ | refine le_alloc ?_ | refine le_drew ?_ | refine le_drewN ?_ | refine le_set ?_ | refine le_plus ?_ ))))) | refine Below.drew ?_ | refine below_drewN ?_ _)))⟩
theorem pseudo_open {W : World} {base : Nat} {v : Value} (g : Value.okWide Try.prog W .any base 45 v) : Gives Try.prog 7 #[v] W (.bool true) := by
  obtain ⟨cs, rfl, hc⟩ := open_agg_struct (ts := (4 :: List.replicate 16 5) ++ ((4 :: List.replicate 16 5) ++ [3, 3])) Try.underlying45 (by kernel_rfl) (by kernel_rfl) g
  obtain ⟨a, b, rfl, ha, hb⟩ := cellsAll_append _ _ hc
  obtain ⟨b, c, rfl, hb, hd⟩ := cellsAll_append _ _ hb
  obtain ⟨x1, r1, rfl, hx1, ha⟩ := cellsAll_cons ha
  obtain ⟨va, rfl⟩ := cell_bool Try.underlying4 hx1
  have ha' : CellsAll Try.prog W .any base (List.replicate 16 5) r1 := ha.2
  obtain ⟨la, hla, rfl⟩ := cells_u8 Try.underlying5 16 ha'
  obtain ⟨x2, r2, rfl, hx2, hb⟩ := cellsAll_cons hb
  obtain ⟨vb, rfl⟩ := cell_bool Try.underlying4 hx2
  have hb' : CellsAll Try.prog W .any base (List.replicate 16 5) r2 := hb.2
  obtain ⟨lb, hlb, rfl⟩ := cells_u8 Try.underlying5 16 hb'
  obtain ⟨x3, r3, rfl, hx3, hd3⟩ := cellsAll_cons hd
  obtain ⟨pi, rfl, _⟩ := cell_i64 Try.underlying3 hx3
  obtain ⟨x4, r4, rfl, hx4, hd4⟩ := cellsAll_cons hd3
  obtain ⟨ni, rfl, _⟩ := cell_i64 Try.underlying3 hx4
  obtain rfl := cellsAll_nil hd4
  exact pseudo_walk (A := (Value.bool va :: la.map byteV).toArray) (B := (Value.bool vb :: lb.map byteV).toArray) ⟨rfl, hla⟩ ⟨rfl, hlb⟩ rfl
set_option maxRecDepth 100000 in
theorem sumPseudo_lifted (os : Os) (started : os.Started) (H : Type) (enc : TypeId × Value → H) :
    ReturnsInHanded {} Try.checked os 7 .any (Rows.sumPseudoSpec.pre6 enc Try.prog Try.f7 Rows.sumPseudoRow.domain false) (Rows.sumPseudoSpec.post enc Try.prog Try.f7 false true false false) := by
  refine lifted_of_walk (C := Try.checked) (tb := 4) own started (by kernel_rfl) Try.func7
    (ChangeSpec.witness6 (enc := enc) (C := Try.checked) false ⟨#[], #[.agg ((Value.bool false :: List.replicate 16 (Value.int .u8 0)) ++ ((Value.bool false :: List.replicate 16 (Value.int .u8 0)) ++ [Value.int .i64 0, Value.int .i64 0])).toArray], []⟩ 8 (by kernel_rfl) (by kernel_rfl) (by kernel_rfl) (by kernel_rfl))
    (by kernel_rfl) Try.underlying4 (by kernel_rfl) (by kernel_rfl) rfl ?_ ?_
  · intro ds hl
    match ds, hl with
    | [d0], _ => exact ⟨rfl, rfl, rfl⟩
  · intro W base args ds ps hval hA hfz
    have hA' : DataW.TrodAll enc Try.prog W 0 (fun _ => true) true Try.f7.params.toList args.toList ds ps := hA
    rw [Try.params7] at hA'
    obtain ⟨v0, vs0, d0, ds0, p0, q0, hargs0, rfl, rfl, h0, r0⟩ := trodAll_cons hA'
    obtain ⟨hvs, rfl, rfl⟩ := trodAll_nil r0
    obtain rfl : args = #[v0] := by cases args; simp_all
    have g0 := hval 0 45 v0 rfl rfl
    exact pseudo_open g0
theorem sumPseudo_proved : Rows.SumPseudoSaid :=
  OpenClaim.holds_of_wide 7 Try.f7 rfl rfl rfl rfl rfl rfl rfl ⟨rfl, rfl, rfl, rfl, rfl⟩ rfl rfl rfl rfl rfl (by kernel_rfl) Try.func7 (by kernel_rfl)
    (of_decide_eq_true (by kernel_rfl)) (by unfold Func.isWrapper; first | (rw [if_pos (by decide +kernel)]; kernel_rfl) | (rw [if_neg (by decide +kernel)]; exact ⟨rfl, rfl⟩))
    (fun os started H enc _ => sumPseudo_lifted os started H enc)
end Go.Proofs.Ytelbaoiihbhdpaa
