/-
  Joined texts: Jh, Ji.
-/
import Derived.Test.YtdnehjhijmeihaaGreatQJg
import Derived.Test.YtdnehjhijmeihaaGreatQVp
namespace Go.Proofs.YtdnehjhijmeihaaGreat
open Go.ChangeShapes Go.WideShapes Go.ChangeAt Go.RowKit
set_option linter.unusedVariables false
set_option linter.unusedSimpArgs false
set_option maxRecDepth 20000
attribute [local irreducible] wpList ByteArray.extract Int.decLt
set_option maxHeartbeats 8000000
def mN (a : Ad) (j : Nat) : Nat := (macN a)[j]?.getD 0
def mS (x0 x1 x2 x3 x4 x5 : Int) (k : Nat) : List Seg := [.one (.int .u8 (if 0 < k then x0 else 0)), .one (.int .u8 (if 1 < k then x1 else 0)), .one (.int .u8 (if 2 < k then x2 else 0)), .one (.int .u8 (if 3 < k then x3 else 0)), .one (.int .u8 (if 4 < k then x4 else 0)), .one (.int .u8 (if 5 < k then x5 else 0))]
theorem nm3 {B : Nat} {w0 W : World} {H : HB} {g1 g2 g3 : Nat} {t1 t2 t3 : TypeId} {b1 b2 b3 : Bool} {S1 S2 S3 : List Seg} (hH : Hp B w0 W ((g1, t1, b1, S1) :: (g2, t2, b2, S2) :: (g3, t3, b3, S3) :: H)) : ∃ x y z, x = g1 ∧ y = g2 ∧ z = g3 := ⟨_, _, _, rfl, rfl, rfl⟩
section
variable {w : World} {a : Ad} {s : ByteArray}
theorem raMac_any (hg : groupA a.v a.b = true) : Gives Tryz.prog 26 #[.agg (addrV a.v a.b)] w (.tuple #[.agg (macL a).toArray, .bool true]) := by
  refine Gives.of ?_
  have hH := Hp.refl w
  have f : ∀ w, Gives Tryz.prog 25 #[.agg (addrV a.v a.b)] w (.bool true) := fun w => by rw [← hg]; exact raGroup_any a.h
  have oA := okA_bytes a.h
  have c1 := bA_cell a (i := 1) (by omega)
  have c2 := bA_cell a (i := 2) (by omega)
  have c3 := bA_cell a (i := 3) (by omega)
  have c12 := bA_cell a (i := 12) (by omega)
  have c13 := bA_cell a (i := 13) (by omega)
  have c14 := bA_cell a (i := 14) (by omega)
  have c15 := bA_cell a (i := 15) (by omega)
  have g1 := bA_lt a 1
  have e1 : (bA a 1 : Int).tmod 128 = ((bA a 1 % 128 : Nat) : Int) := by rw [Int.tmod_eq_emod_of_nonneg (by omega)]; omega
  rw [addr_segs] at *
  unfold macL macN
  rw [hg]
  unfold b8 at *
  generalize a.b.map byteV = A at *
  generalize a.v = v at *
  generalize bA a 1 = n1 at *
  generalize bA a 2 = n2 at *
  generalize bA a 3 = n3 at *
  cases v
  all_goals go_enter Tryz.func26, Tryz.ntmps26
  all_goals go_wp2_with (refine st ?_; clear hH; first | intro W g hH | intro W hH)
  all_goals obtain ⟨ga, gb, gc, ea, eb, ec⟩ := nm3 hH
  all_goals subst ea eb ec
  rotate_left
  all_goals (
    first
    | (go_loopw [5] (fun i wr => ∃ k : Nat, k ≤ 6 ∧ i = .int .i64 k ∧ Hp w.heap.size w wr [(ga, 40, true, mS 51 51 (bA a 12) (bA a 13) (bA a 14) (bA a 15) k), (gb, 40, true, mS 0 0 0 0 0 0 0), (gc, 25, true, [.one (.bool true), .many A 16])]) (fun i _ => 6 - (intOf i).toNat); (case atStart => exact ⟨0, by omega, rfl, hH⟩))
    | (go_loopw [5] (fun i wr => ∃ k : Nat, k ≤ 6 ∧ i = .int .i64 k ∧ Hp w.heap.size w wr [(ga, 40, true, mS 0 0 0 n1 n2 n3 k), (gb, 40, true, mS 0 0 0 0 0 0 0), (gc, 25, true, [.one (.bool false), .many A 16])]) (fun i _ => 6 - (intOf i).toNat); (case atStart => exact ⟨0, by omega, rfl, hH⟩))
    case round =>
      clear hH
      obtain ⟨k, hk, rfl, hH⟩ := hrel
      rcases (show k = 0 ∨ k = 1 ∨ k = 2 ∨ k = 3 ∨ k = 4 ∨ k = 5 ∨ k = 6 by omega) with rfl | rfl | rfl | rfl | rfl | rfl | rfl
      all_goals simp [mS] at hH
      all_goals go_wp2_with (refine st ?_; clear hH; first | intro W g hH | intro W hH)
      all_goals first | exact ⟨⟨1, by omega, rfl, hH⟩, by simp [intOf]⟩ | exact ⟨⟨2, by omega, rfl, hH⟩, by simp [intOf]⟩ | exact ⟨⟨3, by omega, rfl, hH⟩, by simp [intOf]⟩ | exact ⟨⟨4, by omega, rfl, hH⟩, by simp [intOf]⟩ | exact ⟨⟨5, by omega, rfl, hH⟩, by simp [intOf]⟩ | exact ⟨⟨6, by omega, rfl, hH⟩, by simp [intOf]⟩ | ((refine iRet2 Tryz.results26 tab_ok rfl rfl hH ?_; refine ⟨_, _, rfl, rfl, rfl, ?_⟩); exact ⟨rfl, hH.below⟩))
theorem ris_any : Gives Tryz.prog 27 #[.string s] w (.bool (V.isF s)) := by
  refine Gives.of ?_
  have hH := Hp.refl w
  unfold V.isF
  by_cases hz : s.size = 0
  · have e : s = ⟨#[]⟩ := by
      have := size_toList s
      rw [hz] at this
      have : s = ByteArray.empty := by simpa using this
      exact this
    subst e
    go_enter Tryz.func27, Tryz.ntmps27
    go_wp2_with (refine st ?_; clear hH; first | intro W g hH | intro W hH)
    go_ret
    exact ⟨rfl, hH.below⟩
  · have hne2 := notEmpty (d := s) (by omega)
    have hp : decide (0 < s.size) = true := decide_eq_true (by omega)
    rw [hp, Bool.true_and]
    have i0 : ∀ W, (Instr.index 9 (.string s) (.int .i64 0)).run Tryz.prog W = .ok (.int .u8 (numAt s 0 1 : Int)) W := fun W => by
      rw [numAt_one (by omega)]; exact by4_ix (i := 0) (by omega) W
    have hx : numAt s 0 1 < 256 := numAt_lt s 0 1
    generalize numAt s 0 1 = x at *
    have hc : [130, 131, 132, 143].contains x = (decide (x = 130) || (decide (x = 131) || (decide (x = 132) || decide (x = 143)))) := by
      rw [Bool.eq_iff_iff]; simp
    rw [hc]
    have d1 : ((x : Int) == 130) = decide (x = 130) := by rw [Bool.eq_iff_iff]; simp; omega
    have d2 : ((x : Int) == 131) = decide (x = 131) := by rw [Bool.eq_iff_iff]; simp; omega
    have d3 : ((x : Int) == 132) = decide (x = 132) := by rw [Bool.eq_iff_iff]; simp; omega
    have d4 : ((x : Int) == 143) = decide (x = 143) := by rw [Bool.eq_iff_iff]; simp; omega
    have hs1 : 1 ≤ s.size := by omega
    clear hz hp hc
    generalize decide (x = 130) = c1 at *
    generalize decide (x = 131) = c2 at *
    generalize decide (x = 132) = c3 at *
    generalize decide (x = 143) = c4 at *
    cases c1; (focus (cases c2; (focus (cases c3; (focus (cases c4))))))
    all_goals go_enter Tryz.func27, Tryz.ntmps27
    all_goals go_wp2_with (refine st ?_; clear hH; first | intro W g hH | intro W hH)
    all_goals go_ret
    all_goals exact ⟨rfl, hH.below⟩
end
section
variable {B : Nat} {w0 W w : World} {H D : HB} {X : List Value} {vlan : Int} {T : Tk} {f a : Ad}
end
def tailR (T : Tk) (e hop vlan : Int) (al c2 c3 : Bool) (f a : Ad) : Res := if e ≠ 0 then Res.z e else if (hop != 1 || (c2 && !al || !c3)) = true then Res.z 2 else ⟨1, vlan, f, a, T, 0, 0, ⟨#[]⟩, 0⟩
section
variable {w : World} {b d body : ByteArray} {f a : Ad} {al is tg c1 c2 c3 c4 cG cA : Bool} {pr hop vlan e tos id : Int} {Wd : Nat} {K12 ty : Int} {T : Tk} {r : Res}
structure TagC (b : ByteArray) (tg : Bool) (K12 : Int) (Wd : Nat) (ty vlan : Int) : Prop where
  f1 : ∀ w, Gives Tryz.prog 21 #[.string b] w (.int .i64 0)
  f2 : ∀ w, Gives Tryz.prog 22 #[.string (b.extract 12 14)] w (.int .u64 K12)
  f3 : ∀ w, Gives Tryz.prog 22 #[.string (b.extract 14 16)] w (.int .u64 Wd)
  f4 : ∀ w, Gives Tryz.prog 22 #[.string (b.extract (if tg then 16 else 12) (if tg then 18 else 14))] w (.int .u64 ty)
  hW : Wd < 65536
  ht : 0 ≤ ty ∧ ty < 65536
  hK : 0 ≤ K12 ∧ K12 < 65536
  hs : b.size ≤ 800
  hl : (if tg then 18 else 14) ≤ b.size
  d1 : (K12 == 33024) = tg
  hk : tg = false → K12 = ty
  hv : vlan = if tg then ((Wd % 4096 : Nat) : Int) else 0
theorem macL_ok : OkA (macL a) 6 := by
  refine ⟨?_, fun v hv => by obtain ⟨n, _, rfl⟩ := List.mem_map.1 hv; rfl⟩
  unfold macL macN
  split
  · split <;> simp
  · simp
end
end Go.Proofs.YtdnehjhijmeihaaGreat
