/-
  Vz5: M5, Vz0 in one text.
-/
import Derived.Test.YtealimfmognglaaHk
import Derived.Test.YtealimfmognglaaVqx
import Derived.Test.YtealimfmognglaaIn
namespace Go.Proofs.Ytealimfmognglaa
-- %in
section
open Go.ChangeShapes Go.WideShapes Go.ChangeAt Go.RowKit
set_option linter.unusedVariables false
set_option linter.unusedSimpArgs false
section
variable {P : Program} {B : Nat} {w0 W : World} {H H0 : HB} {a : Act} {Q : Exit → Act → World → Prop} {l : List Oper} {fuel : Nat} {listed : Array Bool} {nb : List Nat}
theorem hk_all (rs : List Nat) (hr : Region.ready .any l.toArray listed = rs) (hne : rs ≠ []) (h : ∀ m ∈ rs, ∃ o, l[m]? = some o ∧ wpList P l.toArray (hkQ P l Q B w0 H0 nb (nb.contains m) fuel (listed.setIfInBounds m true)) [o] a W) : WMK P l Q B w0 H0 nb (fuel + 1) listed a W := by
  intro hc
  refine ⟨fun h0 => by (rw [hr] at h0; exact absurd h0 hne), fun k hk => ?_⟩
  have hk' := hk
  rw [hr] at hk
  obtain ⟨o, ho, hw⟩ := h k hk
  exact hk_op k ho hk' hc hw
def mixS (S : Act → World → Prop) : Exit → Act → World → Prop
  | .normal, a, w => S a w
  | _, _, _ => False
theorem regKS {S : Act → World → Prop} {id : Nat} (nb : List Nat) (hH : Hp B w0 W H) (hS : SubH H H0) (hm : P.follows .mixedOrders = true) (h : ∀ W', Hp B w0 W' H → WMK P l (mixS S) B w0 H0 nb l.length (Array.replicate l.length false) a W')
    (hk : ∀ a W', S a W' → Q .normal a W') : (Code.region id l.toArray true).wp P Q a W := by
  refine Code.wp_mono (fun e a w hq => ?_) (regK nb hH hS hm h)
  cases e <;> first | exact hq.elim | exact hk _ _ hq
theorem hk_endS {S : Act → World → Prop} (hr : Region.ready .any l.toArray listed = []) (h : S a W) : WMK P l (mixS S) B w0 H0 nb fuel listed a W := hk_end hr h
end
end
section
open Go.ChangeShapes Go.WideShapes Go.ChangeAt Go.RowKit
set_option linter.unusedVariables false
set_option linter.unusedSimpArgs false
set_option maxRecDepth 20000
attribute [local irreducible] wpList

open Classical in
noncomputable def cntH (x : Nat × TypeId × Bool × List Seg) : HB → Nat
  | [] => 0
  | r :: H => cntH x H + (if r = x then 1 else 0)
theorem cnt_nil (x) : cntH x [] = 0 := rfl
theorem cnt_cons (x r) (H : HB) : cntH x (r :: H) = cntH x H + cntH x [r] := by simp [cntH]
theorem cnt_app (x) : ∀ (A B : HB), cntH x (A ++ B) = cntH x A + cntH x B
  | [], B => by simp [cntH]
  | r :: A, B => by simp only [List.cons_append, cntH, cnt_app x A B]; omega
open Classical in
noncomputable def oneC (x r : Nat × TypeId × Bool × List Seg) : Nat := if r = x then 1 else 0
theorem cnt_c (x r) (H : HB) : cntH x (r :: H) = cntH x H + oneC x r := rfl
theorem cnt_mem {x} : ∀ {H : HB}, 0 < cntH x H → x ∈ H
  | [], h => by simp [cntH] at h
  | r :: H, h => by
    unfold cntH at h
    by_cases e : r = x
    · subst e; simp
    · rw [if_neg e] at h
      exact List.mem_cons_of_mem _ (cnt_mem h)
theorem permC : ∀ {A B : HB}, (∀ x, cntH x A = cntH x B) → A.Perm B
  | [], [], _ => .nil
  | [], r :: B, h => by
    have := h r
    simp [cntH] at this
  | r :: A, B, h => by
    have hr := h r
    have hm : r ∈ B := cnt_mem (by rw [← hr]; simp [cntH])
    obtain ⟨C, D, rfl⟩ := List.append_of_mem hm
    refine (List.Perm.cons r (permC (A := A) (B := C ++ D) fun x => ?_)).trans List.perm_middle.symm
    have := h x
    have e1 := cnt_cons x r A
    have e2 := cnt_app x C (r :: D)
    have e3 := cnt_cons x r D
    have e4 := cnt_app x C D
    omega
/-- an address in two pieces -/
def adS (a : Ad) : List Seg := [.one (.bool a.v), .many (a.b.map byteV) 16]
def awS (T : Tk) (sp : Option Addr) (sc : Nat) (rp : Option Addr) (rc : Nat) (f t o : Ad) : List Seg := tkS T sp sc rp rc ++ (adS f ++ (adS t ++ adS o))
theorem fls_adS (a : Ad) : fls (adS a) = adL a := by simp [fls, adS, adL, addrL]
section
variable {H0 : Type} {enc : TypeId × Value → H0} {W : World} {base : Nat} {held : Bool}
theorem aw_open {v : Value} {d : DataW H0} {p : List MemPlace} {base' : Nat} (g : Value.okWide Try.prog W .any base' 30 v) (h : DataW.Trod enc Try.prog W base (fun _ => true) held 30 v d p) :
    ∃ (T : Tk) (sp rp : Option Addr) (sc rc : Nat) (f t o : Ad), v = .agg (fls (awS T sp sc rp rc f t o)).toArray ∧ AdsAt W sp T.src ∧ RcsAt W rp T.recs ∧ T.Ok := by
  obtain ⟨cs, rfl, hc⟩ := open_agg_struct (ts := ([4, 3, 3, 3] ++ (4 :: List.replicate 16 5) ++ [4, 3, 3, 25, 26]) ++ ((4 :: List.replicate 16 5) ++ ((4 :: List.replicate 16 5) ++ (4 :: List.replicate 16 5)))) Try.underlying30 (by kernel_rfl) (by kernel_rfl) g
  obtain ⟨fuel0, hf0⟩ := h
  have hf0 : DataW.trod enc Try.prog W base (fun _ => true) held fuel0 30 cs = some (d, p) := by simpa [Value.cells] using hf0
  obtain ⟨xs, n, _, _, hl, hxl, hf⟩ := DataW.trod_struct Try.underlying30 hf0
  have hl : cs.length = 77 := by rw [hl]; kernel_rfl
  have hxl : xs.length = 4 := hxl
  have g0 := hf 0 _ rfl
  have g1 := hf 1 _ rfl
  have g2 := hf 2 _ rfl
  have g3 := hf 3 _ rfl
  have ct : Try.prog.cellsOf 28 = 26 := by kernel_rfl
  have ca : Try.prog.cellsOf 24 = 17 := by kernel_rfl
  change DataW.trod enc Try.prog W base (fun _ => true) held n 28 ((cs.drop 0).take (Try.prog.cellsOf 28)) = xs[0]? at g0
  change DataW.trod enc Try.prog W base (fun _ => true) held n 24 ((cs.drop 26).take (Try.prog.cellsOf 24)) = xs[1]? at g1
  change DataW.trod enc Try.prog W base (fun _ => true) held n 24 ((cs.drop 43).take (Try.prog.cellsOf 24)) = xs[2]? at g2
  change DataW.trod enc Try.prog W base (fun _ => true) held n 24 ((cs.drop 60).take (Try.prog.cellsOf 24)) = xs[3]? at g3
  rw [ct, List.getElem?_eq_getElem (show 0 < xs.length by omega)] at g0
  rw [ca, List.getElem?_eq_getElem (show 1 < xs.length by omega)] at g1
  rw [ca, List.getElem?_eq_getElem (show 2 < xs.length by omega)] at g2
  rw [ca, List.getElem?_eq_getElem (show 3 < xs.length by omega)] at g3
  obtain ⟨T, sp, rp, sc, rc, e0, q1, q2, q3, _⟩ := tk_trod g0
  obtain ⟨f, e1⟩ := ad_trod g1
  obtain ⟨t, e2⟩ := ad_trod g2
  obtain ⟨o, e3⟩ := ad_trod g3
  refine ⟨T, sp, rp, sc, rc, f, t, o, ?_, q1, q2, q3⟩
  have e : cs = fls (awS T sp sc rp rc f t o) := by
    unfold awS
    rw [fls_app, fls_app, fls_app, fls_adS, fls_adS, fls_adS, ← e0, ← e1, ← e2, ← e3]
    rw [List.drop_zero]
    have h3 : (cs.drop 60).take 17 = cs.drop 60 := List.take_of_length_le (by rw [List.length_drop]; omega)
    rw [h3]
    have a1 : (cs.drop 43).take 17 ++ cs.drop 60 = cs.drop 43 := by
      have := List.take_append_drop 17 (cs.drop 43)
      rwa [List.drop_drop] at this
    have a2 : (cs.drop 26).take 17 ++ cs.drop 43 = cs.drop 26 := by
      have := List.take_append_drop 17 (cs.drop 26)
      rwa [List.drop_drop] at this
    rw [a1, a2, List.take_append_drop]
  rw [e]
end
end
end Go.Proofs.Ytealimfmognglaa
