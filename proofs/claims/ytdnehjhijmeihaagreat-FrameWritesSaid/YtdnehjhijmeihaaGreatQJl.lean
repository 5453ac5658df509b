/-
  Joined texts: Jl.
-/
import Derived.Test.YtdnehjhijmeihaaGreatQJh
namespace Go.Proofs.YtdnehjhijmeihaaGreat
open Go.ChangeShapes Go.WideShapes Go.ChangeAt Go.RowKit
set_option linter.unusedVariables false
set_option linter.unusedSimpArgs false
set_option maxRecDepth 20000
theorem macN_lt {a : Ad} {n : Nat} (h : n ∈ macN a) : n < 256 := by
  have hb := bA_lt a
  unfold macN at h
  split at h
  all_goals simp only [List.mem_cons, List.not_mem_nil, or_false] at h
  all_goals rcases h with rfl | rfl | rfl | rfl | rfl | rfl
  all_goals first | exact hb _ | omega
def macB (a : Ad) : List UInt8 := (macN a).map UInt8.ofNat
theorem macL_is {a : Ad} (hg : groupA a.v a.b = true) : macL a = (macB a).map byteV := by
  unfold macL macB
  rw [if_pos hg, List.map_map]
  refine List.map_congr_left fun n hn => ?_
  have := macN_lt hn
  simp only [b8, byteV, Function.comp, UInt8.toNat_ofNat']
  rw [Nat.mod_eq_of_lt (by omega)]
theorem macB_len (a : Ad) : (macB a).length = 6 := by unfold macB macN; split <;> simp
theorem mac_neq {xs ys : List UInt8} (hx : xs.length = 6) (hy : ys.length = 6) (w : World) : (binOp .neq 40 (.agg (xs.map byteV).toArray) (.agg (ys.map byteV).toArray)).run Tryz.prog w = .ok (.bool (!(xs == ys))) w := by
  have h : (Tryz.prog.info? 5).map (·.size) = some 1 := by kernel_rfl
  have hsz : ∀ w, (sizeOf 5).run Tryz.prog w = .ok 1 w := fun w => by
    cases hq : Tryz.prog.info? 5 with
    | none => simp [hq] at h
    | some i =>
      have hs : i.size = 1 := by simpa [hq] using h
      simp [sizeOf, typeInfo, hq, hs]
  have e1 := run_equalIn_bytes (P := Tryz.prog) w 9998 _ _ 6 Tryz.underlying40 Tryz.underlying5 hsz xs ys hx hy
  have hc : (fun b : UInt8 => byteV b) = Extern.Stop.cell := rfl
  simp only [hc] at *
  simp only [binOp, Sem.run_bind]
  simp [go_sem]
  unfold Op.equal
  have e2 : (Op.equalIn Op.maxDepth 40 (.agg (xs.map Extern.Stop.cell).toArray) (.agg (ys.map Extern.Stop.cell).toArray)).run Tryz.prog w = .ok (xs == ys) w := e1
  have hc2 : (byteV : UInt8 → Value) = Extern.Stop.cell := rfl
  try rw [hc2]
  rw [e2]
  rfl
theorem macB_get {a : Ad} {j : Nat} (h : j < 6) : ((macB a)[j]'(by rw [macB_len]; exact h)).toNat = mN a j := by
  have hl : j < (macN a).length := by have := macB_len a; unfold macB at this; rw [List.length_map] at this; omega
  unfold macB mN
  rw [List.getElem_map, List.getElem?_eq_getElem hl]
  have := macN_lt (a := a) (List.getElem_mem hl)
  simp only [UInt8.toNat_ofNat', Option.getD_some]
  exact Nat.mod_eq_of_lt (by omega)
open Classical in
theorem mac_ne {a : Ad} {b : ByteArray} (hb : 14 ≤ b.size) : (!(macB a == pad6 (b.extract 0 6))) = decide (∃ j, j < 6 ∧ mN a j ≠ by4 b j) := by
  have hl := size_toList b
  have hp : pad6 (b.extract 0 6) = b.data.toList.take 6 := by
    unfold pad6
    rw [extract_size (by omega) (by omega), toList_extract]; simp
  rw [hp, Bool.eq_iff_iff]
  simp only [Bool.not_eq_true', beq_eq_false_iff_ne, decide_eq_true_eq]
  constructor
  · intro hn
    apply Classical.byContradiction
    intro hx
    apply hn
    refine List.ext_getElem (by rw [macB_len, List.length_take]; omega) fun j h1 h2 => ?_
    have h6 : j < 6 := by rw [macB_len] at h1; exact h1
    apply UInt8.toNat.inj
    rw [macB_get h6, List.getElem_take]
    have : mN a j = by4 b j := Classical.byContradiction fun h => hx ⟨j, h6, h⟩
    rw [this]; unfold by4; rw [List.getElem?_eq_getElem (by omega)]; rfl
  · rintro ⟨j, hj, hn⟩ he
    apply hn
    rw [← macB_get hj]
    have : (macB a)[j]'(by rw [macB_len]; exact hj) = (b.data.toList.take 6)[j]'(by rw [List.length_take]; omega) := by simp only [he]
    rw [this, List.getElem_take]
    unfold by4; rw [List.getElem?_eq_getElem (by omega)]; rfl
end Go.Proofs.YtdnehjhijmeihaaGreat
