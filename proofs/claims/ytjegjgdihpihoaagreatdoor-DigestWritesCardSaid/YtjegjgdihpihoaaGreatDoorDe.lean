/-
  Entries: as data, and where they lie in memory.
-/
import Derived.Test.YtjegjgdihpihoaaGreatDoorAd
namespace Go.Proofs.YtjegjgdihpihoaaGreatDoor
open Go.ChangeShapes Go.WideShapes Go.ChangeAt Go.RowKit
set_option linter.unusedVariables false
set_option linter.unusedSimpArgs false
set_option maxRecDepth 20000
attribute [local irreducible] wpList

/-- an entry, as data -/
structure En where
  vlan : Int
  grp : Ad
  ex : Bool
  src : List Ad
/-- an entry in memory: its value, where its sources lie -/
structure Ev where
  e : En
  p : Option Addr
  c : Nat
def enS (e : En) (p : Option Addr) (c : Nat) : List Seg := [.one (.int .i64 e.vlan), .many (adL e.grp) 17, .one (.bool e.ex), .one (.slice p e.src.length c)]
def evS (x : Ev) : List Seg := enS x.e x.p x.c
theorem enS_ok (e : En) (p : Option Addr) (c : Nat) : okS (enS e p c) := ⟨rfl, adL_ok _, rfl, rfl, trivial⟩
theorem evS_ok (x : Ev) : okS (evS x) := enS_ok _ _ _
theorem evS_len (x : Ev) : lenS (evS x) = 20 := rfl
def EnsAt (w : World) (p : Option Addr) (R : List En) : Prop := R.length ≤ 9223372036854775807 ∧ ∃ RR : List Ev, RR.map Ev.e = R ∧ ∀ i (h : i < RR.length), (∃ q, p = some q ∧ OldR w (q.add (i * 20)) (fls (evS RR[i]))) ∧ AdsAt w RR[i].p RR[i].e.src
theorem EnsAt.below {w W : World} {p : Option Addr} {R : List En} (h : EnsAt w p R) (hb : Below w.heap.size w W) : EnsAt W p R := by
  obtain ⟨h0, RR, h1, h2⟩ := h
  exact ⟨h0, RR, h1, fun i hi => ⟨by obtain ⟨q, h3, h4⟩ := (h2 i hi).1; exact ⟨q, h3, h4.below hb⟩, (h2 i hi).2.below hb⟩⟩
theorem EnsAt.get {w : World} {p : Option Addr} {R : List En} (h : EnsAt w p R) {j : Nat} (hj : j < R.length) : ∃ q s c, p = some q ∧ OldR w (q.add (j * 20)) (fls (enS R[j] s c)) ∧ AdsAt w s R[j].src := by
  obtain ⟨_, RR, rfl, h2⟩ := h
  have hj : j < RR.length := by simpa using hj
  obtain ⟨⟨q, h3, h4⟩, h5⟩ := h2 j hj
  simp only [List.getElem_map]
  exact ⟨q, RR[j].p, RR[j].c, h3, h4, h5⟩
theorem EnsAt.nil {w : World} {p : Option Addr} : EnsAt w p [] := ⟨by simp, [], rfl, fun i h => by simp at h⟩
def evsL (R : List Ev) : List Value := R.flatMap fun x => fls (evS x)
theorem evsL_len : ∀ R : List Ev, (evsL R).length = R.length * 20
  | [] => rfl
  | x :: R => by
    have := evsL_len R
    simp only [evsL, List.flatMap_cons, List.length_append, List.length_cons] at *
    rw [okS_len (evS_ok x), evS_len]
    omega
theorem evsL_at {R : List Ev} {k : Nat} (hk : k < R.length) : AtL (evsL R) (k * 20) (fls (evS R[k])) := by
  refine ⟨evsL (R.take k), evsL (R.drop (k + 1)), ?_, ?_⟩
  · have : R = R.take k ++ (R[k] :: R.drop (k + 1)) := by rw [← List.drop_eq_getElem_cons hk, List.take_append_drop]
    have e : evsL R = evsL (R.take k ++ (R[k] :: R.drop (k + 1))) := congrArg evsL this
    rw [e]
    simp only [evsL, List.flatMap_append, List.flatMap_cons]
  · rw [evsL_len, List.length_take]; congr 1; omega
theorem ensAt_row {W : World} {g : Nat} {t : TypeId} {R : List Ev} {J : List Value} (hl : R.length ≤ 9223372036854775807) (hr : Row W g t (evsL R ++ J).toArray) (h : ∀ x ∈ R, AdsAt W x.p x.e.src) : EnsAt W (some ⟨g, 0, none⟩) (R.map Ev.e) :=
  ⟨by simpa using hl, R, rfl, fun i hi => ⟨⟨_, rfl, row_old hr (evsL_at hi).app⟩, h _ (List.getElem_mem hi)⟩⟩
section
variable {H : Type} {enc : TypeId × Value → H} {W : World} {base : Nat} {held : Bool} {fuel : Nat} {cs : List Value} {x : DataW H × List MemPlace}
theorem en_trod (h : DataW.trod enc Tryz.prog W base (fun _ => true) held fuel 29 cs = some x) : ∃ y : Ev, cs = fls (evS y) ∧ AdsAt W y.p y.e.src ∧ inI y.e.vlan := by
  obtain ⟨xs, n, rfl, _, hl, hxl, hf⟩ := DataW.trod_struct Tryz.underlying29 h
  have hl : cs.length = 20 := by rw [hl]; kernel_rfl
  have hxl : xs.length = 3 := hxl
  have g0 := hf 0 _ rfl
  have g1 := hf 1 _ rfl
  have g2 := hf 2 _ rfl
  have ci : Tryz.prog.cellsOf 3 = 1 := by kernel_rfl
  have ca : Tryz.prog.cellsOf 24 = 17 := by kernel_rfl
  have cf : Tryz.prog.cellsOf 27 = 2 := by kernel_rfl
  have cb : Tryz.prog.cellsOf 4 = 1 := by kernel_rfl
  have cl : Tryz.prog.cellsOf 25 = 1 := by kernel_rfl
  change DataW.trod enc Tryz.prog W base (fun _ => true) held n 3 ((cs.drop 0).take (Tryz.prog.cellsOf 3)) = xs[0]? at g0
  change DataW.trod enc Tryz.prog W base (fun _ => true) held n 24 ((cs.drop 1).take (Tryz.prog.cellsOf 24)) = xs[1]? at g1
  change DataW.trod enc Tryz.prog W base (fun _ => true) held n 27 ((cs.drop 18).take (Tryz.prog.cellsOf 27)) = xs[2]? at g2
  rw [ci, List.getElem?_eq_getElem (show 0 < xs.length by omega)] at g0
  rw [ca, List.getElem?_eq_getElem (show 1 < xs.length by omega)] at g1
  rw [cf, List.getElem?_eq_getElem (show 2 < xs.length by omega)] at g2
  obtain ⟨k, hk, _, hw⟩ := DataW.trod_int Tryz.underlying3 g0
  obtain ⟨a, ha⟩ := ad_trod g1
  rw [List.take_of_length_le (by simp; omega)] at g2
  obtain ⟨ys, m, hm, _, hl2, hyl, hf2⟩ := DataW.trod_struct Tryz.underlying27 g2
  have hyl : ys.length = 2 := hyl
  have k0 := hf2 0 _ rfl
  have k1 := hf2 1 _ rfl
  change DataW.trod enc Tryz.prog W base (fun _ => true) held m 4 (((cs.drop 18).drop 0).take (Tryz.prog.cellsOf 4)) = ys[0]? at k0
  change DataW.trod enc Tryz.prog W base (fun _ => true) held m 25 (((cs.drop 18).drop 1).take (Tryz.prog.cellsOf 25)) = ys[1]? at k1
  rw [cb, List.getElem?_eq_getElem (show 0 < ys.length by omega)] at k0
  rw [cl, List.getElem?_eq_getElem (show 1 < ys.length by omega)] at k1
  obtain ⟨b, hb, _⟩ := DataW.trod_bool Tryz.underlying4 k0
  obtain ⟨p, L, c, hL, hA, _⟩ := ads_trod k1
  simp only [Lit.wf, Bool.and_eq_true, decide_eq_true_eq] at hw
  refine ⟨⟨⟨k, a, b, L⟩, p, c⟩, ?_, hA, hw⟩
  have e1 : cs = cs.take 1 ++ ((cs.drop 1).take 17 ++ ((cs.drop 18).take 1 ++ (cs.drop 18).drop 1)) := by
    have : cs.drop 18 = (cs.drop 1).drop 17 := by rw [List.drop_drop]
    rw [List.take_append_drop, this, List.take_append_drop, List.take_append_drop]
  rw [List.take_of_length_le (by simp; omega)] at hL
  rw [e1, ha, hL]
  rw [List.drop_zero] at hk hb
  rw [hk, hb]
  rfl
end
end Go.Proofs.YtjegjgdihpihoaaGreatDoor
