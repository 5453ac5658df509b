/-
  A law's argument of type api.Talk (the part of Tk that seats without SameRecords leave out).
-/
import Derived.Test.YtnobencogihbnaaGreatTk
namespace Go.Proofs.YtnobencogihbnaaGreat
open Go.ChangeShapes Go.WideShapes Go.ChangeAt Go.RowKit
set_option linter.unusedVariables false
set_option linter.unusedSimpArgs false
set_option maxRecDepth 20000

section
variable {H : Type} {enc : TypeId × Value → H} {W : World} {base : Nat} {spare : Nat → Bool} {held : Bool} {fuel : Nat} {cs : List Value} {x : DataW H × List MemPlace}
theorem rc_trod (h : DataW.trod enc Tryz.prog W base (fun _ => true) held fuel 50 cs = some x) : ∃ y : Rv, cs = fls (rvS y) ∧ AdsAt W y.p y.r.src ∧ inI y.r.kind := by
  obtain ⟨xs, n, rfl, _, hl, hxl, hf⟩ := DataW.trod_struct Tryz.underlying50 h
  have hl : cs.length = 19 := by rw [hl]; kernel_rfl
  have hxl : xs.length = 3 := hxl
  have g0 := hf 0 _ rfl
  have g1 := hf 1 _ rfl
  have g2 := hf 2 _ rfl
  have ci : Tryz.prog.cellsOf 3 = 1 := by kernel_rfl
  have ca : Tryz.prog.cellsOf 24 = 17 := by kernel_rfl
  have cl : Tryz.prog.cellsOf 25 = 1 := by kernel_rfl
  change DataW.trod enc Tryz.prog W base (fun _ => true) held n 3 ((cs.drop 0).take (Tryz.prog.cellsOf 3)) = xs[0]? at g0
  change DataW.trod enc Tryz.prog W base (fun _ => true) held n 24 ((cs.drop 1).take (Tryz.prog.cellsOf 24)) = xs[1]? at g1
  change DataW.trod enc Tryz.prog W base (fun _ => true) held n 25 ((cs.drop 18).take (Tryz.prog.cellsOf 25)) = xs[2]? at g2
  rw [ci, List.getElem?_eq_getElem (show 0 < xs.length by omega)] at g0
  rw [ca, List.getElem?_eq_getElem (show 1 < xs.length by omega)] at g1
  rw [cl, List.getElem?_eq_getElem (show 2 < xs.length by omega)] at g2
  obtain ⟨k, hk, _, hw⟩ := DataW.trod_int Tryz.underlying3 g0
  obtain ⟨a, ha⟩ := ad_trod g1
  obtain ⟨p, L, c, hL, hA, _⟩ := ads_trod g2
  simp only [Lit.wf, Bool.and_eq_true, decide_eq_true_eq] at hw
  refine ⟨⟨⟨k, a, L⟩, p, c⟩, ?_, hA, hw⟩
  have e1 : cs = cs.take 1 ++ ((cs.drop 1).take 17 ++ cs.drop 18) := by
    have : cs.drop 18 = (cs.drop 1).drop 17 := by rw [List.drop_drop]
    rw [this, List.take_append_drop, List.take_append_drop]
  rw [List.take_of_length_le (by simp; omega)] at hL
  rw [e1, ha, hL]
  rw [List.drop_zero] at hk
  rw [hk]
  rfl
theorem rcs_trod (h : DataW.trod enc Tryz.prog W base (fun _ => true) held fuel 26 cs = some x) : ∃ (p : Option Addr) (R : List Rc) (c : Nat), cs = [.slice p R.length c] ∧ RcsAt W p R ∧ (∀ r ∈ R, inI r.kind) ∧ R.length ≤ c ∧ c ≤ 9223372036854775807 ∧ (p = none → R = [] ∧ c = 0) := by
  have c19 : Tryz.prog.cellsOf 50 = 19 := by kernel_rfl
  rcases Go.Deep.open_slice Tryz.underlying26 h with ⟨hc, _⟩ | ⟨a, len, cap, m, n, D, Pl, hc, _, hlc, hcm, hm, hx, hcells⟩
  · exact ⟨none, [], 0, hc, RcsAt.nil, by simp, by simp, by simp, fun _ => ⟨rfl, rfl⟩⟩
  · simp only [if_true] at hm
    rw [c19] at hcells
    have each : ∀ i : Fin len, ∃ y : Rv, OldR W (a.add (i.1 * 19)) (fls (rvS y)) ∧ AdsAt W y.p y.r.src ∧ inI y.r.kind := fun i => by
      obtain ⟨cs', h1, h2⟩ := hcells i.1 (by have := i.2; omega)
      obtain ⟨y, rfl, h3, h4⟩ := rc_trod h2
      exact ⟨y, oldR_of h1 (by omega), h3, h4⟩
    obtain ⟨q, hq⟩ := Classical.axiomOfChoice each
    have hcm : cap ≤ 9223372036854775807 := by simpa only [maxLen] using hcm
    refine ⟨some a, (List.ofFn q).map Rv.r, cap, by rw [hc]; simp, ⟨by simp; omega, List.ofFn q, rfl, fun i hi => ⟨⟨a, rfl, ?_⟩, ?_⟩⟩, fun r hr => ?_, by simpa using hlc, hcm, fun h => by cases h⟩
    · have := (hq ⟨i, by simpa using hi⟩).1
      rw [List.getElem_ofFn]
      exact this
    · have := (hq ⟨i, by simpa using hi⟩).2.1
      rw [List.getElem_ofFn]
      exact this
    · obtain ⟨y, hy, rfl⟩ := List.mem_map.1 hr
      obtain ⟨i, rfl⟩ := List.mem_ofFn.1 hy
      exact (hq i).2.2
theorem take_split {cs : List Value} (h : cs.length = 26) : cs = cs.take 1 ++ ((cs.drop 1).take 1 ++ ((cs.drop 2).take 1 ++ ((cs.drop 3).take 1 ++ ((cs.drop 4).take 17 ++ ((cs.drop 21).take 1 ++ ((cs.drop 22).take 1 ++ ((cs.drop 23).take 1 ++ ((cs.drop 24).take 1 ++ (cs.drop 25).take 1)))))))) := by
  have s : ∀ i n, cs.drop i = (cs.drop i).take n ++ cs.drop (i + n) := fun i n => by rw [← List.drop_drop, List.take_append_drop]
  have s0 : cs = cs.take 1 ++ cs.drop 1 := (List.take_append_drop 1 cs).symm
  have e : (cs.drop 25).take 1 = cs.drop 25 := List.take_of_length_le (by simp; omega)
  conv => lhs; rw [s0, s 1 1, s 2 1, s 3 1, s 4 17, s 21 1, s 22 1, s 23 1, s 24 1]
  rw [e]
theorem tk_trod (h : DataW.trod enc Tryz.prog W base (fun _ => true) held fuel 28 cs = some x) : ∃ (T : Tk) (sp rp : Option Addr) (sc rc : Nat), cs = fls (tkS T sp sc rp rc) ∧ AdsAt W sp T.src ∧ RcsAt W rp T.recs ∧ T.Ok ∧ (sp = none → T.src = [] ∧ sc = 0) ∧ (rp = none → T.recs = [] ∧ rc = 0) ∧ T.src.length ≤ sc ∧ sc ≤ 9223372036854775807 ∧ T.recs.length ≤ rc ∧ rc ≤ 9223372036854775807 := by
  obtain ⟨xs, n, rfl, _, hl, hxl, hf⟩ := DataW.trod_struct Tryz.underlying28 h
  have hl : cs.length = 26 := by rw [hl]; kernel_rfl
  have hxl : xs.length = 10 := hxl
  have ci : Tryz.prog.cellsOf 3 = 1 := by kernel_rfl
  have cb : Tryz.prog.cellsOf 4 = 1 := by kernel_rfl
  have ca : Tryz.prog.cellsOf 24 = 17 := by kernel_rfl
  have cl : Tryz.prog.cellsOf 25 = 1 := by kernel_rfl
  have cr : Tryz.prog.cellsOf 26 = 1 := by kernel_rfl
  have g0 := hf 0 _ rfl
  have g1 := hf 1 _ rfl
  have g2 := hf 2 _ rfl
  have g3 := hf 3 _ rfl
  have g4 := hf 4 _ rfl
  have g5 := hf 5 _ rfl
  have g6 := hf 6 _ rfl
  have g7 := hf 7 _ rfl
  have g8 := hf 8 _ rfl
  have g9 := hf 9 _ rfl
  change DataW.trod enc Tryz.prog W base (fun _ => true) held n 4 ((cs.drop 0).take (Tryz.prog.cellsOf 4)) = xs[0]? at g0
  change DataW.trod enc Tryz.prog W base (fun _ => true) held n 3 ((cs.drop 1).take (Tryz.prog.cellsOf 3)) = xs[1]? at g1
  change DataW.trod enc Tryz.prog W base (fun _ => true) held n 3 ((cs.drop 2).take (Tryz.prog.cellsOf 3)) = xs[2]? at g2
  change DataW.trod enc Tryz.prog W base (fun _ => true) held n 3 ((cs.drop 3).take (Tryz.prog.cellsOf 3)) = xs[3]? at g3
  change DataW.trod enc Tryz.prog W base (fun _ => true) held n 24 ((cs.drop 4).take (Tryz.prog.cellsOf 24)) = xs[4]? at g4
  change DataW.trod enc Tryz.prog W base (fun _ => true) held n 4 ((cs.drop 21).take (Tryz.prog.cellsOf 4)) = xs[5]? at g5
  change DataW.trod enc Tryz.prog W base (fun _ => true) held n 3 ((cs.drop 22).take (Tryz.prog.cellsOf 3)) = xs[6]? at g6
  change DataW.trod enc Tryz.prog W base (fun _ => true) held n 3 ((cs.drop 23).take (Tryz.prog.cellsOf 3)) = xs[7]? at g7
  change DataW.trod enc Tryz.prog W base (fun _ => true) held n 25 ((cs.drop 24).take (Tryz.prog.cellsOf 25)) = xs[8]? at g8
  change DataW.trod enc Tryz.prog W base (fun _ => true) held n 26 ((cs.drop 25).take (Tryz.prog.cellsOf 26)) = xs[9]? at g9
  rw [cb, List.getElem?_eq_getElem (show 0 < xs.length by omega)] at g0
  rw [ci, List.getElem?_eq_getElem (show 1 < xs.length by omega)] at g1
  rw [ci, List.getElem?_eq_getElem (show 2 < xs.length by omega)] at g2
  rw [ci, List.getElem?_eq_getElem (show 3 < xs.length by omega)] at g3
  rw [ca, List.getElem?_eq_getElem (show 4 < xs.length by omega)] at g4
  rw [cb, List.getElem?_eq_getElem (show 5 < xs.length by omega)] at g5
  rw [ci, List.getElem?_eq_getElem (show 6 < xs.length by omega)] at g6
  rw [ci, List.getElem?_eq_getElem (show 7 < xs.length by omega)] at g7
  rw [cl, List.getElem?_eq_getElem (show 8 < xs.length by omega)] at g8
  rw [cr, List.getElem?_eq_getElem (show 9 < xs.length by omega)] at g9
  obtain ⟨k0, h0, _⟩ := DataW.trod_bool Tryz.underlying4 g0
  obtain ⟨k1, h1, _, w1⟩ := DataW.trod_int Tryz.underlying3 g1
  obtain ⟨k2, h2, _, w2⟩ := DataW.trod_int Tryz.underlying3 g2
  obtain ⟨k3, h3, _, w3⟩ := DataW.trod_int Tryz.underlying3 g3
  obtain ⟨a, h4⟩ := ad_trod g4
  obtain ⟨k5, h5, _⟩ := DataW.trod_bool Tryz.underlying4 g5
  obtain ⟨k6, h6, _, w6⟩ := DataW.trod_int Tryz.underlying3 g6
  obtain ⟨k7, h7, _, w7⟩ := DataW.trod_int Tryz.underlying3 g7
  obtain ⟨sp, L, sc, h8, hA, i1, i2, i3⟩ := ads_trod g8
  obtain ⟨rp, R, rc, h9, hR, hRk, j1, j2, j3⟩ := rcs_trod g9
  simp only [Lit.wf, Bool.and_eq_true, decide_eq_true_eq] at w1 w2 w3 w6 w7
  refine ⟨⟨k0, k1, k2, k3, a, k5, k6, k7, L, R⟩, sp, rp, sc, rc, ?_, hA, hR, ⟨w1, w2, w3, w6, w7, hRk⟩, i3, j3, i1, i2, j1, j2⟩
  rw [take_split hl, h1, h2, h3, h4, h5, h6, h7, h8, h9]
  rw [List.drop_zero] at h0
  rw [h0]
  rfl
theorem tk_open {v : Value} {d : DataW H} {p : List MemPlace} {base' : Nat} (g : Value.okWide Tryz.prog W .any base' 28 v) (h : DataW.Trod enc Tryz.prog W base (fun _ => true) held 28 v d p) :
    ∃ (T : Tk) (sp rp : Option Addr) (sc rc : Nat), v = .agg (fls (tkS T sp sc rp rc)).toArray ∧ AdsAt W sp T.src ∧ RcsAt W rp T.recs ∧ T.Ok ∧ (sp = none → T.src = [] ∧ sc = 0) ∧ (rp = none → T.recs = [] ∧ rc = 0) ∧ T.src.length ≤ sc ∧ sc ≤ 9223372036854775807 ∧ T.recs.length ≤ rc ∧ rc ≤ 9223372036854775807 := by
  obtain ⟨cs, rfl, hc⟩ := open_agg_struct (ts := [4, 3, 3, 3] ++ (4 :: List.replicate 16 5) ++ [4, 3, 3, 25, 26]) Tryz.underlying28 (by kernel_rfl) (by kernel_rfl) g
  obtain ⟨fuel0, hf0⟩ := h
  have hf0 : DataW.trod enc Tryz.prog W base (fun _ => true) held fuel0 28 cs = some (d, p) := by simpa [Value.cells] using hf0
  obtain ⟨T, sp, rp, sc, rc, h1, h2⟩ := tk_trod hf0
  exact ⟨T, sp, rp, sc, rc, by rw [h1], h2⟩
end
end Go.Proofs.YtnobencogihbnaaGreat
