/-
  append of one element of many cells onto a slice that is nil; no program in sight.
-/
import Derived.Test.YtdhkinonfnfmoaaBig
namespace Go.Proofs.Ytdhkinonfnfmoaa
open Go.ChangeShapes Go.WideShapes Go.ChangeAt Go.RowKit
set_option linter.unusedVariables false
set_option linter.unusedSimpArgs false

theorem wpList_app_nil {P : Program} {ops : Array Oper} {rest : List Oper} {o : Oper} {a : Act} {Q : Exit → Act → World → Prop} {w : World} {t e : TypeId} (size bytes : Nat) (ht : P.underlying t = some (.slice e))
    (hi : (P.info? e).map (fun i => (i.size, i.bytes, i.zero.map (·.cells.size))) = some (size, bytes, some size)) (hgd : o.guard = none) {s x : Operand}
    (ho : o.op = .call { callee := .builtin .append, args := #[s, x], argTypes := #[t, t] }) (hs : a.eval s = .slice none 0 0) {g : Nat} (hx : a.eval x = .slice (some ⟨g, 0, none⟩) 1 1)
    {ns : Array Value} (hrow : Row w g e ns) (hl : ns.size = size) (hsz : 0 < size) (h1 : ns.all (·.oneCell') = true) (hb : bytes ≤ 140737488355328)
    (h : ∀ g' cap cur w', Row w' g' e cur → (∀ (i : Nat) v, ns[i]? = some v → cur[i]? = some v) → w.heap.size ≤ g' → Below w.heap.size w w' → wpList P ops Q rest (a.put o.dst (.slice (some ⟨g', 0, none⟩) 1 cap)) w') : wpList P ops Q (o :: rest) a w := by
  cases hq : P.info? e with
  | none => simp [hq] at hi
  | some i =>
    rw [hq] at hi
    simp only [Option.map_some, Option.some.injEq, Prod.mk.injEq] at hi
    obtain ⟨e1, e2, e3⟩ := hi
    cases hz : i.zero with
    | none => simp [hz] at e3
    | some z =>
      rw [hz] at e3
      simp only [Option.map_some, Option.some.injEq] at e3
      refine wpList_append_own w hgd s x t ho w.heap.size e i z size bytes ht hq hz e1 e2 e3 hsz (.slice none 0 0) 0 [] hs ⟨by simp, .inl ⟨rfl, rfl⟩⟩ ⟨g, 0, none⟩ 1 1 ns.toList hx (by simp [hl]) ?_ ?_ (by simp [maxLen]) (by simpa using hb) (Nat.le_refl _) ?_
      · intro j u hu
        rw [show (⟨g, 0, none⟩ : Addr).add j = ⟨g, j, none⟩ by unfold Addr.add; split <;> simp_all, hrow.cell, ← Array.getElem?_toList]
        exact hu
      · intro u hu
        exact (Array.all_eq_true_iff_forall_mem.1 h1) u (by simpa using hu)
      · intro v' w' hown hg hiff
        rcases hown.2 with ⟨h0, h2⟩ | ⟨g', cap, cur, rfl, hbase, hh, _, _, hsz2, hcur⟩
        · omega
        · refine h g' cap cur w' hh (fun j v hv => ?_) hbase ⟨hg.os, hg.tape, hg.output, hg.size, fun k hk => hg.block k hk (by simp [Value.ownBlock])⟩
          have h3 : (ns.toList)[j]? = some v := by simpa using hv
          have hj := (List.getElem?_eq_some_iff.1 h3).1
          rw [List.nil_append] at hcur
          rw [← hcur, List.getElem?_take] at h3
          split at h3
          · simpa using h3
          · cases h3
end Go.Proofs.Ytdhkinonfnfmoaa
