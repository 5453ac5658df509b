/-
  'ElectLowest': the law, its arguments opened.
-/
import Derived.Test.YteoonblpaabjpaaLe6
import Derived.Deep.Slices
namespace Go.Proofs.Yteoonblpaabjpaa
open Go.ChangeShapes Go.WideShapes Go.ChangeAt Go.RowKit
set_option linter.unusedVariables false
set_option linter.unusedSimpArgs false

theorem one_at {L : List Value} {i : Nat} {v : Value} (h : (L.drop i).take 1 = [v]) : L[i]? = some v := by
  have := congrArg (fun l => l[0]?) h
  simpa using this
section
variable {H : Type} {enc : TypeId × Value → H} {W : World} {base : Nat} {spare : Nat → Bool} {held : Bool} {fuel : Nat} {cs : List Value} {x : DataW H × List MemPlace}
theorem addr_trod (h : DataW.trod enc Try.prog W base spare held fuel 27 cs = some x) : ∃ (v : Bool) (l : List UInt8), cs = addrL v l ∧ l.length = 16 := by
  obtain ⟨xs, n, rfl, _, hl, hxl, hf⟩ := DataW.trod_struct Try.underlying27 h
  have hl : cs.length = 17 := by rw [hl]; kernel_rfl
  have hxl : xs.length = 2 := hxl
  have g0 := hf 0 _ rfl
  have g1 := hf 1 _ rfl
  have cb : Try.prog.cellsOf 4 = 1 := by kernel_rfl
  have ca : Try.prog.cellsOf 25 = 16 := by kernel_rfl
  have cu : Try.prog.cellsOf 5 = 1 := by kernel_rfl
  change DataW.trod enc Try.prog W base spare held n 4 ((cs.drop 0).take (Try.prog.cellsOf 4)) = xs[0]? at g0
  change DataW.trod enc Try.prog W base spare held n 25 ((cs.drop 1).take (Try.prog.cellsOf 25)) = xs[1]? at g1
  rw [cb, List.getElem?_eq_getElem (show 0 < xs.length by omega)] at g0
  rw [ca, List.getElem?_eq_getElem (show 1 < xs.length by omega)] at g1
  obtain ⟨b, hb, _⟩ := DataW.trod_bool Try.underlying4 g0
  obtain ⟨ys, m, _, _, _, hyl, hg⟩ := DataW.trod_array Try.underlying25 g1
  have each : ∀ i, i < 16 → ∃ k : UInt8, cs[1 + i]? = some (.int .u8 (k.toNat : Int)) := fun i hi => by
    have hgi := hg i hi
    rw [cu, List.getElem?_eq_getElem (show i < ys.length by omega), Nat.mul_one] at hgi
    obtain ⟨k, hk, _, hw⟩ := DataW.trod_int Try.underlying5 hgi
    have h1 := one_at hk
    rw [List.getElem?_take, if_pos hi, List.getElem?_drop] at h1
    simp only [Lit.wf, Bool.and_eq_true, decide_eq_true_eq] at hw
    have hb1 : 0 ≤ k := hw.1
    have hb2 : k ≤ 255 := hw.2
    refine ⟨UInt8.ofNat k.toNat, ?_⟩
    rw [h1]
    congr 2
    rw [UInt8.toNat_ofNat']
    omega
  obtain ⟨K, hK⟩ := Classical.axiomOfChoice (r := fun (i : Fin 16) (k : UInt8) => cs[1 + i.1]? = some (.int .u8 (k.toNat : Int))) (fun i => each i.1 i.2)
  refine ⟨b, List.ofFn K, ?_, by simp⟩
  refine List.ext_getElem? fun i => ?_
  match i with
  | 0 =>
    have := one_at hb
    simpa [addrL] using this
  | i + 1 =>
    show cs[i + 1]? = (addrL b (List.ofFn K))[i + 1]?
    unfold addrL
    rw [List.getElem?_cons_succ, List.getElem?_map]
    by_cases hi : i < 16
    · have := hK ⟨i, hi⟩
      rw [show i + 1 = 1 + i by omega, this, List.getElem?_eq_getElem (by simpa using hi)]
      rw [List.getElem_ofFn]
      rfl
    · rw [List.getElem?_eq_none (by omega), List.getElem?_eq_none (by simpa using hi)]
      rfl
end
theorem cell_lt1 {w : World} {p : Addr} {v : Value} (h : w.cell? p = some v) : p.block < w.heap.size := by
  by_cases hlt : p.block < w.heap.size
  · exact hlt
  · unfold World.cell? at h
    rw [Array.getElem?_eq_none (by omega)] at h
    simp at h
theorem tune_open {W : World} {base : Nat} {v : Value} (g : Value.okWide Try.prog W .any base 24 v) : ∃ r e p l c : Int, v = .agg #[.int .i64 r, .int .i64 e, .int .i64 p, .int .i64 l, .int .i64 c] := by
  obtain ⟨cs, rfl, hc⟩ := open_agg_struct (ts := [3, 3, 3, 3, 3]) Try.underlying24 (by kernel_rfl) (by kernel_rfl) g
  obtain ⟨r, cs, rfl, hr, hc⟩ := cellsAll_cons hc
  obtain ⟨e, cs, rfl, he, hc⟩ := cellsAll_cons hc
  obtain ⟨p, cs, rfl, hp, hc⟩ := cellsAll_cons hc
  obtain ⟨l, cs, rfl, hl, hc⟩ := cellsAll_cons hc
  obtain ⟨c, cs, rfl, hcc, hc⟩ := cellsAll_cons hc
  obtain rfl := cellsAll_nil hc
  obtain ⟨r, rfl, _⟩ := cell_i64 Try.underlying3 hr
  obtain ⟨e, rfl, _⟩ := cell_i64 Try.underlying3 he
  obtain ⟨p, rfl, _⟩ := cell_i64 Try.underlying3 hp
  obtain ⟨l, rfl, _⟩ := cell_i64 Try.underlying3 hl
  obtain ⟨c, rfl, _⟩ := cell_i64 Try.underlying3 hcc
  exact ⟨r, e, p, l, c, rfl⟩
theorem lowest_open {H : Type} {enc : TypeId × Value → H} {r e p l c : Int} {v6 : Bool} {W : World} {base : Nat} {v : Value} {d : DataW H} {ps : List MemPlace} (g : Value.okWide Try.prog W .any base 22 v)
    (h : DataW.Trod enc Try.prog W 0 (fun _ => true) true 22 v d ps) : Gives Try.prog 3 #[v, .agg #[.int .i64 r, .int .i64 e, .int .i64 p, .int .i64 l, .int .i64 c], .bool v6] W (.bool true) := by
  obtain ⟨b0, n0, c0, rfl⟩ := okWide_slice Try.underlying22 g
  obtain ⟨fuel0, hf0⟩ := h
  have c17 : Try.prog.cellsOf 27 = 17 := by kernel_rfl
  rcases Go.Deep.open_slice Try.underlying22 hf0 with ⟨hc, _⟩ | ⟨a, len, cap, m, n, D, Pl, hc, _, hlc, hcm, hm, hx, hcells⟩
  · simp [Value.cells] at hc
    obtain ⟨rfl, rfl, rfl⟩ := hc
    exact lowest_walk (V := fun _ => false) (M := fun _ => zero16) (fun i hi => by omega) (fun i hi => by omega) (by omega)
  · simp [Value.cells] at hc
    obtain ⟨rfl, rfl, rfl⟩ := hc
    simp only [if_true] at hm
    have hcm2 : c0 ≤ 9223372036854775807 := by simpa only [maxLen] using hcm
    rw [c17] at hcells
    have each : ∀ i : Fin n0, ∃ q : Bool × List UInt8, q.2.length = 16 ∧ OldR W (a.add (i.1 * 17)) (addrL q.1 q.2) := fun i => by
      obtain ⟨cs', h1, h2⟩ := hcells i.1 (by have := i.2; omega)
      obtain ⟨_, hlen, hcell⟩ := World.cells?_some h1
      obtain ⟨v, l, rfl, hl⟩ := addr_trod h2
      refine ⟨(v, l), hl, fun j x hj => ?_, ?_⟩
      · have hj17 : j < 17 := by rw [← hlen]; exact (List.getElem?_eq_some_iff.1 hj).1
        rw [hcell j hj17]
        exact hj
      · have h0 := hcell 0 (by omega)
        rw [List.getElem?_eq_getElem (by omega)] at h0
        have := cell_lt1 h0
        unfold Addr.add at this ⊢
        simpa using this
    obtain ⟨q, hq⟩ := Classical.axiomOfChoice each
    refine lowest_walk (V := fun i => if h : i < n0 then (q ⟨i, h⟩).1 else false) (M := fun i => if h : i < n0 then (q ⟨i, h⟩).2 else zero16) (fun i hi => ?_) (fun i hi => ?_) (by omega)
    · simp only [hi, dif_pos]; exact (hq ⟨i, hi⟩).1
    · refine ⟨a, rfl, ?_⟩
      simp only [hi, dif_pos]; exact (hq ⟨i, hi⟩).2
set_option maxRecDepth 100000 in
theorem electLowest_lifted (os : Os) (started : os.Started) (H : Type) (enc : TypeId × Value → H) :
    ReturnsInHanded {} Try.checked os 3 .any (Rows.electLowestSpec.pre6 enc Try.prog Try.f3 Rows.electLowestRow.domain false) (Rows.electLowestSpec.post enc Try.prog Try.f3 false true false false) := by
  refine lifted_of_walk (C := Try.checked) (tb := 4) own started (by kernel_rfl) Try.func3
    (ChangeSpec.witness6 (enc := enc) (C := Try.checked) false ⟨#[], #[.slice none 0 0, .agg #[.int .i64 0, .int .i64 0, .int .i64 0, .int .i64 0, .int .i64 0], .bool false], []⟩ 8 (by kernel_rfl) (by kernel_rfl) (by kernel_rfl) (by kernel_rfl))
    (by kernel_rfl) Try.underlying4 (by kernel_rfl) (by kernel_rfl) rfl ?_ ?_
  · intro ds hl
    match ds, hl with
    | [d0, d1, d2], _ => exact ⟨rfl, rfl, rfl⟩
  · intro W base args ds ps hval hA hfz
    have hA' : DataW.TrodAll enc Try.prog W 0 (fun _ => true) true Try.f3.params.toList args.toList ds ps := hA
    rw [Try.params3] at hA'
    obtain ⟨v0, vs0, d0, ds0, p0, q0, hargs0, rfl, rfl, h0, r0⟩ := trodAll_cons hA'
    obtain ⟨v1, vs1, d1, ds1, p1, q1, hargs1, rfl, rfl, h1, r1⟩ := trodAll_cons r0
    obtain ⟨v2, vs2, d2, ds2, p2, q2, hargs2, rfl, rfl, h2, r2⟩ := trodAll_cons r1
    obtain ⟨hvs, rfl, rfl⟩ := trodAll_nil r2
    obtain rfl : args = #[v0, v1, v2] := by cases args; simp_all
    have g0 := hval 0 22 v0 rfl rfl
    have g1 := hval 1 24 v1 rfl rfl
    have g2 := hval 2 4 v2 rfl rfl
    obtain ⟨r, e, p, l, c, rfl⟩ := tune_open g1
    obtain ⟨v6, rfl⟩ := open_boolv Try.underlying4 g2
    exact lowest_open g0 h0
theorem electLowest_proved : Rows.ElectLowestSaid :=
  OpenClaim.holds_of_wide 3 Try.f3 rfl rfl rfl rfl rfl rfl rfl ⟨rfl, rfl, rfl, rfl, rfl⟩ rfl rfl rfl rfl rfl (by kernel_rfl) Try.func3 (by kernel_rfl)
    (of_decide_eq_true (by kernel_rfl)) (by unfold Func.isWrapper; first | (rw [if_pos (by decide +kernel)]; kernel_rfl) | (rw [if_neg (by decide +kernel)]; exact ⟨rfl, rfl⟩))
    (fun os started H enc _ => electLowest_lifted os started H enc)
end Go.Proofs.Yteoonblpaabjpaa
