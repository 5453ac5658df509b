/-
  Joined texts: Jh.
-/
import Derived.Test.YtdnehjhijmeihaaGreatQJg
import Derived.Test.YtdnehjhijmeihaaGreatQVp
namespace Go.Proofs.YtdnehjhijmeihaaGreat
-- %in
open Go.ChangeShapes Go.WideShapes Go.ChangeAt Go.RowKit
set_option linter.unusedVariables false
set_option linter.unusedSimpArgs false
set_option maxRecDepth 20000
set_option maxHeartbeats 4000000
attribute [local irreducible] wpList ByteArray.extract Int.decLt

def mN (a : Ad) (j : Nat) : Nat := (macN a)[j]?.getD 0
theorem mN_lt (a : Ad) (j : Nat) : mN a j < 256 := by
  have h := bA_lt a
  have h1 := h 1; have h2 := h 2; have h3 := h 3; have h12 := h 12; have h13 := h 13; have h14 := h 14; have h15 := h 15
  unfold mN macN
  split
  · match j with
    | 0 | 1 | 2 | 3 | 4 | 5 => simp; try omega
    | j + 6 => simp
  · match j with
    | 0 | 1 | 2 | 3 | 4 | 5 => simp; try omega
    | j + 6 => simp
/-- the reference's six numbers behind k rounds -/
def mS (x0 x1 x2 x3 x4 x5 : Int) (k : Nat) : List Seg := [.one (.int .u8 (if 0 < k then x0 else 0)), .one (.int .u8 (if 1 < k then x1 else 0)), .one (.int .u8 (if 2 < k then x2 else 0)), .one (.int .u8 (if 3 < k then x3 else 0)), .one (.int .u8 (if 4 < k then x4 else 0)), .one (.int .u8 (if 5 < k then x5 else 0))]
theorem nm3 {B : Nat} {w0 W : World} {H : HB} {g1 g2 g3 : Nat} {t1 t2 t3 : TypeId} {b1 b2 b3 : Bool} {S1 S2 S3 : List Seg} (hH : Hp B w0 W ((g1, t1, b1, S1) :: (g2, t2, b2, S2) :: (g3, t3, b3, S3) :: H)) : ∃ x y z, x = g1 ∧ y = g2 ∧ z = g3 := ⟨_, _, _, rfl, rfl, rfl⟩
section
variable {w : World} {a : Ad} {s : ByteArray}
theorem raMac_any (hg : groupA a.v a.b = true) : Gives Tryz.prog 26 #[.agg (addrV a.v a.b)] w (.tuple #[.agg (macL a).toArray, .bool true]) := by
  refine Gives.of ?_
  have hH := Hp.refl w
  have f : ∀ w, Gives Tryz.prog 25 #[.agg (addrV a.v a.b)] w (.bool true) := fun w => by rw [← hg]; exact raGroup_any a.h
  have oA := okA_bytes a.h
  have c1 := bA_cell a (i := 1) (by omega)
  have c2 := bA_cell a (i := 2) (by omega)
  have c3 := bA_cell a (i := 3) (by omega)
  have c12 := bA_cell a (i := 12) (by omega)
  have c13 := bA_cell a (i := 13) (by omega)
  have c14 := bA_cell a (i := 14) (by omega)
  have c15 := bA_cell a (i := 15) (by omega)
  have g1 := bA_lt a 1
  have e1 : (bA a 1 : Int).tmod 128 = ((bA a 1 % 128 : Nat) : Int) := by rw [Int.tmod_eq_emod_of_nonneg (by omega)]; omega
  rw [addr_segs] at *
  unfold macL macN
  rw [hg]
  unfold b8 at *
  generalize a.b.map byteV = A at *
  generalize a.v = v at *
  generalize bA a 1 = n1 at *
  generalize bA a 2 = n2 at *
  generalize bA a 3 = n3 at *
  cases v
  all_goals go_enter Tryz.func26, Tryz.ntmps26
  all_goals go_wp2_with (first | (refine st ?_; clear hH; (first | intro W g hH | intro W hH)))
  all_goals obtain ⟨ga, gb, gc, ea, eb, ec⟩ := nm3 hH
  all_goals subst ea eb ec
  rotate_left
  all_goals (
    first
    | (go_loopw [5] (fun i wr => ∃ k : Nat, k ≤ 6 ∧ i = .int .i64 k ∧ Hp w.heap.size w wr [(ga, 40, true, mS 51 51 (bA a 12) (bA a 13) (bA a 14) (bA a 15) k), (gb, 40, true, mS 0 0 0 0 0 0 0), (gc, 25, true, [.one (.bool true), .many A 16])]) (fun i _ => 6 - (intOf i).toNat); (case atStart => exact ⟨0, by omega, rfl, hH⟩))
    | (go_loopw [5] (fun i wr => ∃ k : Nat, k ≤ 6 ∧ i = .int .i64 k ∧ Hp w.heap.size w wr [(ga, 40, true, mS 0 0 0 n1 n2 n3 k), (gb, 40, true, mS 0 0 0 0 0 0 0), (gc, 25, true, [.one (.bool false), .many A 16])]) (fun i _ => 6 - (intOf i).toNat); (case atStart => exact ⟨0, by omega, rfl, hH⟩))
    case round =>
      clear hH
      obtain ⟨k, hk, rfl, hH⟩ := hrel
      rcases (show k = 0 ∨ k = 1 ∨ k = 2 ∨ k = 3 ∨ k = 4 ∨ k = 5 ∨ k = 6 by omega) with rfl | rfl | rfl | rfl | rfl | rfl | rfl
      all_goals simp [mS] at hH
      all_goals go_wp2_with (first | (refine st ?_; clear hH; (first | intro W g hH | intro W hH)))
      all_goals first | exact ⟨⟨1, by omega, rfl, hH⟩, by simp [intOf]⟩ | exact ⟨⟨2, by omega, rfl, hH⟩, by simp [intOf]⟩ | exact ⟨⟨3, by omega, rfl, hH⟩, by simp [intOf]⟩ | exact ⟨⟨4, by omega, rfl, hH⟩, by simp [intOf]⟩ | exact ⟨⟨5, by omega, rfl, hH⟩, by simp [intOf]⟩ | exact ⟨⟨6, by omega, rfl, hH⟩, by simp [intOf]⟩ | ((refine iRet2 Tryz.results26 tab_ok rfl rfl hH ?_; refine ⟨_, _, rfl, rfl, rfl, ?_⟩); exact ⟨rfl, hH.below⟩))
theorem ris_any : Gives Tryz.prog 27 #[.string s] w (.bool (V.isF s)) := by
  refine Gives.of ?_
  have hH := Hp.refl w
  unfold V.isF
  by_cases hz : s.size = 0
  · have e : s = ⟨#[]⟩ := by
      have := size_toList s
      rw [hz] at this
      have : s = ByteArray.empty := by simpa using this
      exact this
    subst e
    go_enter Tryz.func27, Tryz.ntmps27
    go_wp2_with (first | (refine st ?_; clear hH; (first | intro W g hH | intro W hH)))
    go_ret
    exact ⟨rfl, hH.below⟩
  · have hne2 := notEmpty (d := s) (by omega)
    have hp : decide (0 < s.size) = true := decide_eq_true (by omega)
    rw [hp, Bool.true_and]
    have i0 : ∀ W, (Instr.index 9 (.string s) (.int .i64 0)).run Tryz.prog W = .ok (.int .u8 (numAt s 0 1 : Int)) W := fun W => by
      rw [numAt_one (by omega)]; exact by4_ix (i := 0) (by omega) W
    have hx : numAt s 0 1 < 256 := numAt_lt s 0 1
    generalize numAt s 0 1 = x at *
    have hc : [130, 131, 132, 143].contains x = (decide (x = 130) || (decide (x = 131) || (decide (x = 132) || decide (x = 143)))) := by
      rw [Bool.eq_iff_iff]; simp
    rw [hc]
    have d1 : ((x : Int) == 130) = decide (x = 130) := by rw [Bool.eq_iff_iff]; simp; omega
    have d2 : ((x : Int) == 131) = decide (x = 131) := by rw [Bool.eq_iff_iff]; simp; omega
    have d3 : ((x : Int) == 132) = decide (x = 132) := by rw [Bool.eq_iff_iff]; simp; omega
    have d4 : ((x : Int) == 143) = decide (x = 143) := by rw [Bool.eq_iff_iff]; simp; omega
    have hs1 : 1 ≤ s.size := by omega
    clear hz hp hc
    generalize decide (x = 130) = c1 at *
    generalize decide (x = 131) = c2 at *
    generalize decide (x = 132) = c3 at *
    generalize decide (x = 143) = c4 at *
    cases c1; (focus (cases c2; (focus (cases c3; (focus (cases c4))))))
    all_goals go_enter Tryz.func27, Tryz.ntmps27
    all_goals go_wp2_with (first | (refine st ?_; clear hH; (first | intro W g hH | intro W hH)))
    all_goals go_ret
    all_goals exact ⟨rfl, hH.below⟩
end
section
variable {B : Nat} {w0 W w : World} {H D : HB} {X : List Value} {vlan : Int} {T : Tk} {f a : Ad}
theorem rgoodS_any (hT : T.Ok) (hX : TkX D X T) (hD : Hp B w0 w D) (hg : goodT T = true) (h0 : 0 ≤ vlan) (h1 : vlan ≤ 4094) (gF : goodA f.v f.b = true) (gA : goodA a.v a.b = true) (nF : groupA f.v f.b = false) (eV : f.v = a.v) (eT : T.v6 = a.v) :
    Gives Tryz.prog 13 #[.agg (fls (sdS 1 vlan (adL f) (adL a) X 0 0 ⟨#[]⟩)).toArray] w (.bool (eqA a (destA T) && hereA f T)) := by
  have fd : ∀ w, Gives Tryz.prog 39 #[.agg (fls [.many X 26]).toArray] w (.agg (fls [.many (adL (destA T)) 17]).toArray) := fun w => by
    obtain ⟨sp, sc, rp, rc, rfl, hI⟩ := hX
    rw [fls1]; exact rDest_any
  have fk := Lib.hid (show ∀ W', Below w.heap.size w W' → Gives Tryz.prog 38 #[.agg (fls [.many X 26]).toArray] W' (.bool true) from fun W' hb => by
    obtain ⟨sp, sc, rp, rc, rfl, hI⟩ := hX
    obtain ⟨i1, i2⟩ := hI _ _ _ hD
    have := refTalk_any (T := T) (sc := sc) (rc := rc) hT (i1.below hb) (i2.below hb)
    rw [hg] at this
    rw [fls1]; exact this)
  have oX := hX.ok
  have x0 := hX.c0
  have x2 := hX.c2
  clear hX hD hg
  refine Gives.of ?_
  have hH := Hp.refl w
  have f1 : ∀ w, Gives Tryz.prog 37 #[.agg (fls [.many (adL f) 17]).toArray] w (.bool true) := fun w => by rw [← rg_segs, ← gF]; exact raGood_any f.h
  have f5 : ∀ w, Gives Tryz.prog 37 #[.agg (fls [.many (adL a) 17]).toArray] w (.bool true) := fun w => by rw [← rg_segs, ← gA]; exact raGood_any a.h
  have f2 : ∀ w, Gives Tryz.prog 25 #[.agg (fls [.many (adL f) 17]).toArray] w (.bool false) := fun w => by rw [← rg_segs, ← nF]; exact raGroup_any f.h
  have f3 : ∀ w, Gives Tryz.prog 40 #[.agg (fls [.many (adL f) 17]).toArray] w (.bool (zeroA f.b)) := fun w => by rw [← rg_segs]; exact raZero_any f.h
  have fe : ∀ w, (binOp .neq 25 (.agg (fls [.many (adL a) 17]).toArray) (.agg (fls [.many (adL (destA T)) 17]).toArray)).run Tryz.prog w = .ok (.bool (!eqA a (destA T))) w := ad_neq a (destA T)
  have y0 := adL_0 f
  have z0 := adL_0 a
  have y1 : CellA (adL f) 1 (.int .u8 (bA f 0 : Int)) := by have := bA_cell f (i := 0) (by omega); unfold adL addrL CellA b8 at *; rw [List.getElem?_cons_succ]; exact this
  have y2 : CellA (adL f) 2 (.int .u8 (bA f 1 : Int)) := by have := bA_cell f (i := 1) (by omega); unfold adL addrL CellA b8 at *; rw [List.getElem?_cons_succ]; exact this
  have l0 := bA_lt f 0
  have l1 := bA_lt f 1
  have oF := adL_ok f
  have oA := adL_ok a
  have oD := adL_ok (destA T)
  unfold sdS hereA linkA
  rw [eT] at x0
  rw [← eV] at x0 z0
  generalize adL (destA T) = Y at *
  generalize eqA a (destA T) = c1 at *
  generalize zeroA f.b = c3 at *
  obtain ⟨c4, d4⟩ : ∃ c, (T.kind != 1) = c := ⟨_, rfl⟩
  rw [d4]
  generalize T.kind = k at *
  generalize adL f = F at *
  generalize adL a = A at *
  generalize f.v = v at *
  generalize bA f 0 = n0 at *
  generalize bA f 1 = n1 at *
  have d0 : ((n0 : Int) == 254) = decide (n0 = 254) := by rw [Bool.eq_iff_iff]; simp; omega
  have d5 : decide (n1 / 64 = 2) = (decide (128 ≤ (n1 : Int)) && decide ((n1 : Int) < 192)) := by rw [Bool.eq_iff_iff]; simp; omega
  rw [d5]
  generalize decide (n0 = 254) = b0 at *
  obtain ⟨b1, e3⟩ : ∃ b, decide (128 ≤ (n1 : Int)) = b := ⟨_, rfl⟩
  obtain ⟨b2, e4⟩ : ∃ b, decide ((n1 : Int) < 192) = b := ⟨_, rfl⟩
  rw [e3, e4]
  have e1 : decide (vlan < 0) = false := decide_eq_false (by omega)
  have e2 : decide (4094 < vlan) = false := decide_eq_false (by omega)
  clear gF gA nF eV eT d5
  cases v; rotate_left; (focus (cases b0; rotate_left; (focus (cases b1; rotate_left; (focus (cases b2))))))
  all_goals cases c1
  all_goals go_enter Tryz.func13, Tryz.ntmps13
  all_goals go_wp2_with (first | (refine st ?_; clear hH; (first | intro W g hH | intro W hH)))
  all_goals ((with_reducible refine regQ hH (by kernel_rfl) (by kernel_rfl) ?_); intro hne; (repeat (first | (go_big_quiet_want; (first | (refine qiL tab_ok rfl rfl ?_; refine ⟨_, _, rfl, rfl, ?_⟩) | (refine qiLi tab_ok rfl rfl ?_; refine ⟨_, _, _, ?_, rfl, rfl, rfl, ?_, ?_⟩; rotate_left; (focus assumption)) | (refine qBd tab_ok rfl rfl rfl rfl ?_; refine ⟨?_, ?_, ?_⟩; rotate_left; (focus (repeat (first | exact BR.nil | refine BR.one rfl rfl rfl ?_ | (refine BR.row rfl rfl rfl rfl ?_ ?_; (focus (repeat (first | exact trivial | assumption | exact OkA.z (by kernel_rfl) (by kernel_rfl) | refine ⟨rfl, ?_⟩ | refine ⟨?_, ?_⟩))))))))); (try simp only [Act.put, pA, pB, pC]); go_big_quiet_on) | go_big_quiet_step (((with_reducible apply callQ); first | (with_reducible exact f1 _) | (with_reducible exact fd _) | (exact fk.out _ (HW.hp _).below))))); refine wpQuiet_nil ?_; clear hne hH; intro W hH)
  all_goals go_wp2_with (first | (refine st ?_; clear hH; (first | intro W g hH | intro W hH)))
  all_goals go_ret
  all_goals exact ⟨by clear oX oF oA oD x0 x2 y0 z0 y1 y2 f1 f2 f3 f5 fd fk fe hH; first | rfl | (cases c3 <;> cases c4 <;> simp_all), hH.below⟩
end
end Go.Proofs.YtdnehjhijmeihaaGreat
