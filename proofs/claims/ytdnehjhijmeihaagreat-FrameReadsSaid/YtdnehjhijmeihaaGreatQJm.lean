/-
  Joined texts: Jm, Tf.
-/
import Derived.Test.YtdnehjhijmeihaaGreatQTk
import Derived.Test.YtdnehjhijmeihaaGreatQSl
namespace Go.Proofs.YtdnehjhijmeihaaGreat
-- %in
open Go.ChangeShapes Go.WideShapes Go.ChangeAt Go.RowKit
set_option linter.unusedVariables false
set_option linter.unusedSimpArgs false
set_option maxRecDepth 20000
set_option maxHeartbeats 4000000
attribute [local irreducible] wpList

theorem ofInt_u8' (a : Nat) (ha : a < 256) : (BitVec.ofInt 8 (a : Int)).toNat = a := by
  rw [BitVec.ofInt_natCast, BitVec.toNat_ofNat]; exact Nat.mod_eq_of_lt (by omega)
theorem u8_and (a b : Nat) (ha : a < 256) (hb : b < 256) : bits .and .u8 (a : Int) (b : Int) = ((a &&& b : Nat) : Int) := by
  have hx : a &&& b < 2 ^ 8 := Nat.and_lt_two_pow _ (by omega)
  show IntKind.u8.wrap ((BitVec.ofInt 8 (a : Int) &&& BitVec.ofInt 8 (b : Int)).toNat : Int) = _
  rw [BitVec.toNat_and, ofInt_u8' a ha, ofInt_u8' b hb, IntKind.wrap_u8]
  omega
def bA (a : Ad) (i : Nat) : Nat := (a.b[i]?.getD 0).toNat
theorem bA_lt (a : Ad) (i : Nat) : bA a i < 256 := (a.b[i]?.getD 0).toNat_lt
def b8 (n : Nat) : Value := .int .u8 (n : Int)
/-- where an address' frames go -/
def macN (a : Ad) : List Nat := if a.v then [51, 51, bA a 12, bA a 13, bA a 14, bA a 15] else [1, 0, 94, bA a 1 % 128, bA a 2, bA a 3]
def macL (a : Ad) : List Value := (if groupA a.v a.b then macN a else [0, 0, 0, 0, 0, 0]).map b8
theorem bA_cell (a : Ad) {i : Nat} (h : i < 16) : CellA (a.b.map byteV) i (b8 (bA a i)) := by
  have := a.h
  unfold CellA bA
  rw [List.getElem?_map, List.getElem?_eq_getElem (by omega)]; rfl
section
variable {w : World} {a : Ad}
theorem aMac_any : Gives Tryz.prog 18 #[.agg (addrV a.v a.b)] w (.tuple #[.agg (macL a).toArray, .bool (groupA a.v a.b)]) := by
  refine Gives.of ?_
  have hH := Hp.refl w
  have f : ∀ w, Gives Tryz.prog 55 #[.agg (addrV a.v a.b)] w (.bool (groupA a.v a.b)) := fun w => agroup_any a.h
  have oA := okA_bytes a.h
  have c1 := bA_cell a (i := 1) (by omega)
  have c2 := bA_cell a (i := 2) (by omega)
  have c3 := bA_cell a (i := 3) (by omega)
  have c12 := bA_cell a (i := 12) (by omega)
  have c13 := bA_cell a (i := 13) (by omega)
  have c14 := bA_cell a (i := 14) (by omega)
  have c15 := bA_cell a (i := 15) (by omega)
  have ha : bits .and .u8 (bA a 1 : Int) 127 = ((bA a 1 % 128 : Nat) : Int) := by
    have := bA_lt a 1
    rw [show (127 : Int) = ((2 ^ 7 - 1 : Nat) : Int) from rfl, u8_and _ _ this (by omega), Nat.and_two_pow_sub_one_eq_mod]
  rw [addr_segs] at *
  unfold macL macN b8 at *
  generalize a.b.map byteV = A at *
  generalize groupA a.v a.b = g at *
  generalize a.v = v at *
  generalize bA a 1 = n1 at *
  generalize n1 % 128 = m1 at *
  cases g <;> cases v
  all_goals go_enter Tryz.func18, Tryz.ntmps18
  all_goals go_wp2_with (first | (refine st ?_; clear hH; (first | intro W g hH | intro W hH)))
  all_goals (refine iRet2 Tryz.results18 tab_ok rfl rfl hH ?_; refine ⟨_, _, rfl, rfl, rfl, ?_⟩)
  all_goals exact ⟨rfl, hH.below⟩
end
end Go.Proofs.YtdnehjhijmeihaaGreat
namespace Go.Proofs.YtdnehjhijmeihaaGreat
-- %in
open Go.ChangeShapes Go.WideShapes Go.ChangeAt Go.RowKit
set_option linter.unusedVariables false
set_option linter.unusedSimpArgs false
set_option maxRecDepth 20000
attribute [local irreducible] wpList

/-- what copies of addresses leave -/
def AdsPost (w : World) (L : List Ad) (e : Ending) (w' : World) : Prop := ∃ g c q J, e = .returned (.slice (some ⟨g, 0, none⟩) L.length c) ∧ Made w w' [(g, 25, true, [.many (adsL L) (L.length * 17), .many J q])]
theorem AdsPost.mk {w : World} {L : List Ad} {e : Ending} {w' : World} {g c q : Nat} {J : List Value} (h1 : e = .returned (.slice (some ⟨g, 0, none⟩) L.length c)) (h2 : Hp w.heap.size w w' [(g, 25, true, [.many (adsL L) (L.length * 17), .many J q])]) : AdsPost w L e w' := ⟨g, c, q, J, h1, h2, by simp⟩
section
variable {w : World} {p p' : Option Addr} {c c' : Nat} {L M : List Ad}
def RcsPost (w : World) (R : List Rc) (e : Ending) (w' : World) : Prop := ∃ g c D, e = .returned (.slice (some ⟨g, 0, none⟩) R.length c) ∧ Made w w' D ∧ ∀ B w0 W, Hp B w0 W D → RcsAt W (some ⟨g, 0, none⟩) R
theorem RcsPost.mk {w : World} {R : List Rc} {e : Ending} {w' : World} {g c : Nat} {D : HB} (h1 : e = .returned (.slice (some ⟨g, 0, none⟩) R.length c)) (h2 : Made w w' D) (h3 : ∀ B w0 W, Hp B w0 W D → RcsAt W (some ⟨g, 0, none⟩) R) : RcsPost w R e w' := ⟨g, c, D, h1, h2, h3⟩
/-- a talk whose parts lie in blocks that nobody changes -/
def TkIn (D : HB) (sp rp : Option Addr) (T : Tk) : Prop := ∀ B w0 W, Hp B w0 W D → AdsAt W sp T.src ∧ RcsAt W rp T.recs
def TkPost (w : World) (T : Tk) (e : Ending) (w' : World) : Prop := ∃ sp sc rp rc D, e = .returned (.agg (fls (tkS T sp sc rp rc)).toArray) ∧ Made w w' D ∧ TkIn D sp rp T
theorem TkPost.mk {w : World} {T : Tk} {e : Ending} {w' : World} {sp rp : Option Addr} {sc rc : Nat} {D : HB} (h1 : e = .returned (.agg (fls (tkS T sp sc rp rc)).toArray)) (h2 : Made w w' D) (h3 : TkIn D sp rp T) : TkPost w T e w' := ⟨sp, sc, rp, rc, D, h1, h2, h3⟩
end
end Go.Proofs.YtdnehjhijmeihaaGreat
