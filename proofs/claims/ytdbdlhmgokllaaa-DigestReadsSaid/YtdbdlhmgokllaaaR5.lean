/-
  Contracts of acequiaref27.GoodChange, and of Read: what it computes.
-/
import Derived.Test.YtdbdlhmgokllaaaR4
import Derived.Test.YtdbdlhmgokllaaaIn
namespace Go.Proofs.Ytdbdlhmgokllaaa
-- %in
open Go.ChangeShapes Go.WideShapes Go.ChangeAt Go.RowKit
set_option linter.unusedVariables false
set_option linter.unusedSimpArgs false
set_option maxRecDepth 20000
attribute [local irreducible] wpList

def by6 (s : ByteArray) (i : Nat) : Nat := (s.data.toList[i]?.getD 0).toNat
theorem by6_lt (s : ByteArray) (i : Nat) : by6 s i < 256 := by have := (s.data.toList[i]?.getD 0).toNat_lt; unfold by6; omega
theorem by6_get {s : ByteArray} {i : Nat} (h : i < s.size) : s[i].toNat = by6 s i := by unfold by6; rw [getElem_toList s i h]; rfl
theorem rNumAt {s : ByteArray} {i j : Nat} {w : World} (h : i ≤ j) (hj : j ≤ i + 8) : Gives Try.prog 36 #[.string (s.extract i j)] w (.int .u64 (numAt s i (j - i) : Int)) := by
  have := rnum_any (s := s.extract i j) (w := w) (Nat.le_trans (cut_size2 s i j) (by omega))
  rwa [toList_extract] at this
theorem raRead_r {b : ByteArray} {w : World} (h : b.size = 4 ∨ b.size = 16) : Gives Try.prog 37 #[.string b] w (.tuple #[.agg (fls [.many (adL (adR b)) 17]).toArray, .bool true]) := by
  rcases h with h | h
  · rw [adR_four h, addr_segs1]
    exact raRead_one (b := false) (by simpa using h)
  · rw [adR_six h, addr_segs1]
    exact raRead_one (b := true) (by simpa using h)
theorem names3 {B : Nat} {w0 W : World} {a b : Nat} {t t' : TypeId} {o o' : Bool} {S S' : List Seg} {r : Nat × TypeId × Bool × List Seg} (_ : Hp B w0 W [r, (a, t, o, S), (b, t', o', S')]) : ∃ x y, x = a ∧ y = b := ⟨_, _, rfl, rfl⟩
def wdS (s : ByteArray) : Nat := if by6 s 0 / 4 % 2 = 1 then 16 else 4
def refL (s : ByteArray) (wd k : Nat) : List Ad := (List.range k).map fun i => adR (s.extract (4 + wd + wd * i) (4 + wd + wd * i + wd))
theorem refL_snoc {s : ByteArray} {wd k : Nat} : refL s wd (k + 1) = refL s wd k ++ [adR (s.extract (4 + wd + wd * k) (4 + wd + wd * k + wd))] := by unfold refL; rw [List.range_succ, List.map_append]; rfl
theorem refL_len {s : ByteArray} {wd k : Nat} : (refL s wd k).length = k := by unfold refL; simp
def refX (s : ByteArray) (wd k : Nat) : Ch := ⟨⟨(numAt s 1 2 : Int), adR (s.extract 3 (3 + wd)), decide (by6 s 0 / 2 % 2 = 1), refL s wd k⟩, decide (by6 s 0 % 2 = 1)⟩
noncomputable def refC (s : ByteArray) : Ch × Nat × Int :=
  if s.size < 4 + wdS s ∨ s.size < 4 + wdS s + wdS s * by6 s (3 + wdS s) then (Ch.z, 0, 3)
  else if 7 < by6 s 0 ∨ goodC (refX s (wdS s) (by6 s (3 + wdS s))) = false then (Ch.z, 0, 2)
  else (refX s (wdS s) (by6 s (3 + wdS s)), 4 + wdS s + wdS s * by6 s (3 + wdS s), 0)
section
variable {w : World} {p : Option Addr} {c : Nat} {x : Ch}
theorem rGoodC_any (h : AdsAt w p x.e.src) (hl : x.e.src.length ≤ 1000) : Gives Try.prog 38 #[.agg (fls (chS x p c)).toArray] w (.bool (goodC x)) := by
  refine Gives.of ?_
  obtain ⟨e, g⟩ := x
  simp only at h hl
  have hH := Hp.refl w
  have oG := adL_ok e.grp
  have f1 : ∀ w, Gives Try.prog 46 #[.agg (fls (enS e p c)).toArray] w (.bool (placedE e)) := fun w => rplaced_any
  have f3 : ∀ w, Gives Try.prog 62 #[.agg (fls (flS e.ex p e.src.length c)).toArray] w (.bool (noneF e.ex e.src.length)) := fun w => rnone_any
  have F2 := Lib.hid (fun W (hb : Below w.heap.size w W) => rOne_any (c := c) hl (h.below hb))
  clear h hl
  unfold goodC chS enS flS at *
  simp only at *
  generalize placedE e = pl at *
  generalize noneF e.ex e.src.length = nf at *
  generalize oneE e = oe at *
  generalize adL e.grp = G at *
  generalize e.src.length = m at *
  generalize e.ex = ex at *
  generalize e.vlan = k at *
  cases g
  · skip
    go_enter Try.func38, Try.ntmps38
    go_wp2_with (first | ((first | (refine iL tab_ok rfl ?_ rfl hH ?_; (focus (first | exact wN rfl | exact rfl)); refine ⟨_, _, rfl, rfl, ?_⟩) | (refine hBx rfl ?_ rfl hH ?_ ?_; (focus (first | exact wN rfl | exact rfl)); (focus (repeat (first | exact trivial | assumption | exact OkA.z (by kernel_rfl) (by kernel_rfl) | refine ⟨rfl, ?_⟩ | refine ⟨?_, ?_⟩)))) | ((with_reducible refine callH hH ?_); refine ⟨?_, ?_, ?_⟩; rotate_left; (focus (first | (exact F2.out _ hH.below))))); clear hH; (first | intro W g hH | intro W hH); ((try simp only [Act.put, pA, pB, pC]))))
    go_ret
    exact ⟨by simp, hH.below⟩
  · cases pl
    all_goals
      go_enter Try.func38, Try.ntmps38
      go_wp2_with (first | ((first | (refine iL tab_ok rfl ?_ rfl hH ?_; (focus (first | exact wN rfl | exact rfl)); refine ⟨_, _, rfl, rfl, ?_⟩) | (refine hBx rfl ?_ rfl hH ?_ ?_; (focus (first | exact wN rfl | exact rfl)); (focus (repeat (first | exact trivial | assumption | exact OkA.z (by kernel_rfl) (by kernel_rfl) | refine ⟨rfl, ?_⟩ | refine ⟨?_, ?_⟩)))) | ((with_reducible refine callH hH ?_); refine ⟨?_, ?_, ?_⟩; rotate_left; (focus (first | (with_reducible exact f1 _) | (with_reducible exact f3 _))))); clear hH; (first | intro W g hH | intro W hH); ((try simp only [Act.put, pA, pB, pC]))))
      go_ret
      exact ⟨by simp, hH.below⟩
end
section
variable {w : World} {s : ByteArray}
set_option maxHeartbeats 8000000 in
theorem rread_any (hs : s.size ≤ 100000) : Calls Try.prog 15 #[.string s] w fun e w' => RdCP w (refC s).1 (refC s).2.1 (refC s).2.2 e w' := by
  have hH := Hp.refl w
  by_cases he : s = ⟨#[]⟩
  · subst he
    have hr : refC ⟨#[]⟩ = (Ch.z, 0, 3) := by unfold refC; rw [if_pos (.inl (by unfold wdS by6; decide))]
    rw [hr]
    go_enter Try.func15, Try.ntmps15
    go_wp2_with (first | ((first | (refine iL tab_ok rfl ?_ rfl hH ?_; (focus (first | exact wN rfl | exact rfl)); refine ⟨_, _, rfl, rfl, ?_⟩) | (refine iSR tab_ok rfl ?_ rfl hH ?_; (focus (first | exact wN rfl | exact rfl)); refine ⟨_, _, _, _, rfl, rfl, rfl, rfl, rfl, ?_, ?_⟩; (focus (repeat (first | exact trivial | assumption | exact OkA.z (by kernel_rfl) (by kernel_rfl) | refine ⟨rfl, ?_⟩ | refine ⟨?_, ?_⟩)))) | (refine hAl tab_ok rfl ?_ hH rfl ?_; (focus (first | exact wN rfl | exact rfl))) | (refine hBd tab_ok rfl ?_ rfl rfl rfl hH ?_; (focus (first | exact wN rfl | exact rfl)); refine ⟨?_, ?_, ?_⟩; rotate_left; (focus (repeat (first | exact BR.nil | refine BR.one rfl rfl rfl ?_ | (refine BR.row rfl rfl rfl rfl ?_ ?_; (focus (repeat (first | exact trivial | assumption | exact OkA.z (by kernel_rfl) (by kernel_rfl) | refine ⟨rfl, ?_⟩ | refine ⟨?_, ?_⟩))))))))); clear hH; (first | intro W g hH | intro W hH); ((try simp only [Act.put, pA, pB, pC]))))
    refine retC3 Try.results15 tab_ok 1 rfl rfl hH rfl rfl rfl rfl ?_
    exact RdCP.mk (p := none) (cc := 0) (D := []) (by rw [zchS]; rfl) ⟨hH.nil, by simp⟩ (fun _ _ _ _ => AdsAt.nil)
  have h1 : 0 < s.size := by
    rcases Nat.eq_zero_or_pos s.size with h | h
    · exfalso
      apply he
      have := size_toList s
      rw [h] at this
      have : s = ByteArray.empty := by simpa using this
      exact this
    · exact h
  have hne : s.toList.isEmpty = false := by
    rw [ByteArray.toList_eq]
    have := size_toList s
    cases hq : s.data.toList with
    | nil => rw [hq] at this; simp at this; omega
    | cons a l => rfl
  have hv := by6_lt s 0
  have hi0 : ∀ W, (Instr.index 9 (.string s) (.int .i64 0)).run Try.prog W = .ok (.int .u8 (by6 s 0 : Int)) W := fun W => by rw [run_idx Try.underlying9 s 0 (by omega) 0 rfl W, by6_get (by omega)]
  obtain ⟨res, hres⟩ : ∃ r, refC s = r := ⟨_, rfl⟩
  rw [hres]
  unfold refC at hres
  obtain ⟨wd, hwd⟩ : ∃ wd, wdS s = wd := ⟨_, rfl⟩
  rw [hwd] at hres
  unfold wdS at hwd
  unfold refX at hres
  obtain ⟨v, hve⟩ : ∃ v, by6 s 0 = v := ⟨_, rfl⟩
  rw [hve] at hres hwd hv hi0
  clear hve he
  have hwi : (wd = 4 ∧ v / 4 % 2 ≠ 1) ∨ (wd = 16 ∧ v / 4 % 2 = 1) := by
    by_cases h : v / 4 % 2 = 1
    · rw [if_pos h] at hwd; exact .inr ⟨hwd.symm, h⟩
    · rw [if_neg h] at hwd; exact .inl ⟨hwd.symm, h⟩
  clear hwd
  rcases hwi with ⟨rfl, h4⟩ | ⟨rfl, h4⟩
  · by_cases h8 : s.size < 8
    · rw [if_pos (.inl h8)] at hres
      subst hres
      have d8 : decide ((s.size : Int) < 8) = true := decide_eq_true (by omega)
      go_enter Try.func15, Try.ntmps15
      go_wp2_with (first | ((first | (refine iL tab_ok rfl ?_ rfl hH ?_; (focus (first | exact wN rfl | exact rfl)); refine ⟨_, _, rfl, rfl, ?_⟩) | (refine iSR tab_ok rfl ?_ rfl hH ?_; (focus (first | exact wN rfl | exact rfl)); refine ⟨_, _, _, _, rfl, rfl, rfl, rfl, rfl, ?_, ?_⟩; (focus (repeat (first | exact trivial | assumption | exact OkA.z (by kernel_rfl) (by kernel_rfl) | refine ⟨rfl, ?_⟩ | refine ⟨?_, ?_⟩)))) | (refine hAl tab_ok rfl ?_ hH rfl ?_; (focus (first | exact wN rfl | exact rfl))) | (refine hBd tab_ok rfl ?_ rfl rfl rfl hH ?_; (focus (first | exact wN rfl | exact rfl)); refine ⟨?_, ?_, ?_⟩; rotate_left; (focus (repeat (first | exact BR.nil | refine BR.one rfl rfl rfl ?_ | (refine BR.row rfl rfl rfl rfl ?_ ?_; (focus (repeat (first | exact trivial | assumption | exact OkA.z (by kernel_rfl) (by kernel_rfl) | refine ⟨rfl, ?_⟩ | refine ⟨?_, ?_⟩))))))))); clear hH; (first | intro W g hH | intro W hH); ((try simp only [Act.put, pA, pB, pC]))))
      refine retC3 Try.results15 tab_ok 1 rfl rfl hH rfl rfl rfl rfl ?_
      exact RdCP.mk (p := none) (cc := 0) (D := []) (by rw [zchS]; rfl) ⟨hH.nil, by simp⟩ (fun _ _ _ _ => AdsAt.nil)
    have d8 : decide ((s.size : Int) < 8) = false := decide_eq_false (by omega)
    have hm := by6_lt s 7
    have hi7 : ∀ W, (Instr.index 9 (.string s) (.int .i64 7)).run Try.prog W = .ok (.int .u8 (by6 s 7 : Int)) W := fun W => by rw [run_idx Try.underlying9 s 7 (by omega) 7 rfl W, by6_get (by omega)]
    simp only [show 3 + 4 = 7 from rfl, show 4 + 4 = 8 from rfl] at hres
    obtain ⟨m, hme⟩ : ∃ m, by6 s 7 = m := ⟨_, rfl⟩
    rw [hme] at hres hm hi7
    clear hme
    by_cases hn : s.size < 8 + 4 * m
    · rw [if_pos (.inr hn)] at hres
      subst hres
      have d9 : decide ((s.size : Int) < 8 + 4 * (m : Int)) = true := decide_eq_true (by omega)
      go_enter Try.func15, Try.ntmps15
      go_wp2_with (first | ((first | (refine iL tab_ok rfl ?_ rfl hH ?_; (focus (first | exact wN rfl | exact rfl)); refine ⟨_, _, rfl, rfl, ?_⟩) | (refine iSR tab_ok rfl ?_ rfl hH ?_; (focus (first | exact wN rfl | exact rfl)); refine ⟨_, _, _, _, rfl, rfl, rfl, rfl, rfl, ?_, ?_⟩; (focus (repeat (first | exact trivial | assumption | exact OkA.z (by kernel_rfl) (by kernel_rfl) | refine ⟨rfl, ?_⟩ | refine ⟨?_, ?_⟩)))) | (refine hAl tab_ok rfl ?_ hH rfl ?_; (focus (first | exact wN rfl | exact rfl))) | (refine hBd tab_ok rfl ?_ rfl rfl rfl hH ?_; (focus (first | exact wN rfl | exact rfl)); refine ⟨?_, ?_, ?_⟩; rotate_left; (focus (repeat (first | exact BR.nil | refine BR.one rfl rfl rfl ?_ | (refine BR.row rfl rfl rfl rfl ?_ ?_; (focus (repeat (first | exact trivial | assumption | exact OkA.z (by kernel_rfl) (by kernel_rfl) | refine ⟨rfl, ?_⟩ | refine ⟨?_, ?_⟩))))))))); clear hH; (first | intro W g hH | intro W hH); ((try simp only [Act.put, pA, pB, pC]))))
      refine retC3 Try.results15 tab_ok 1 rfl rfl hH rfl rfl rfl rfl ?_
      exact RdCP.mk (p := none) (cc := 0) (D := []) (by rw [zchS]; rfl) ⟨hH.nil, by simp⟩ (fun _ _ _ _ => AdsAt.nil)
    · rw [if_neg (by omega)] at hres
      have d9 : decide ((s.size : Int) < 8 + 4 * (m : Int)) = false := decide_eq_false (by omega)
      have rn : ∀ w, Gives Try.prog 36 #[.string (s.extract 1 3)] w (.int .u64 (numAt s 1 2 : Int)) := fun w => rNumAt (by omega) (by omega)
      have ra : ∀ w, Gives Try.prog 37 #[.string (s.extract 3 7)] w (.tuple #[.agg (fls [.many (adL (adR (s.extract 3 7))) 17]).toArray, .bool true]) := fun w => raRead_r (by rw [extract_size (by omega) (by omega)]; omega)
      obtain ⟨qg, hqg⟩ : ∃ q, decide (v % 2 = 1) = q := ⟨_, rfl⟩
      obtain ⟨qe, hqe⟩ : ∃ q, decide (v / 2 % 2 = 1) = q := ⟨_, rfl⟩
      rw [hqg, hqe] at hres
      have e1 : ((v : Int) % 2 == 1) = qg := by rw [← hqg]; by_cases h : v % 2 = 1 <;> simp [h] <;> omega
      have e2 : ((v : Int) / 2 % 2 == 1) = qe := by rw [← hqe]; by_cases h : v / 2 % 2 = 1 <;> simp [h] <;> omega
      have e1' : decide ((v : Int) % 2 = 1) = qg := by rw [← e1]; by_cases h : (v : Int) % 2 = 1 <;> simp [h]
      have e2' : decide ((v : Int) / 2 % 2 = 1) = qe := by rw [← e2]; by_cases h : (v : Int) / 2 % 2 = 1 <;> simp [h]
      clear hqg hqe
      have HRES := Lib.hid hres
      clear hres
      have h8p : 8 ≤ s.size := by omega
      have hnp : 8 + 4 * m ≤ s.size := by omega
      clear h8 hn
      have hnn : numAt s 1 2 < 65536 := numAt_lt s 1 2
      have oA := adL_ok (adR (s.extract 3 7))
      obtain ⟨n, hN⟩ : ∃ n, numAt s 1 2 = n := ⟨_, rfl⟩
      rw [hN] at rn hnn
      have HN := Lib.hid hN
      clear hN
      obtain ⟨ga, hga⟩ : ∃ x, adR (s.extract 3 7) = x := ⟨_, rfl⟩
      rw [hga] at ra oA
      have HGA := Lib.hid hga
      clear hga
      obtain ⟨A, hA⟩ : ∃ Y, Y = adL ga := ⟨_, rfl⟩
      have HA := Lib.hid hA
      rw [← hA] at ra oA
      clear hA
      have u1 : wrap64 (n : Int) = (n : Int) := by unfold wrap64; omega
      go_enter Try.func15, Try.ntmps15
      go_wp2_with (first | ((go_at_call 36; refine callR 0 (hH.re0 (zch_seg _) (zch_ok _)) rfl (fun _ => rn _) ?_; (clear hH; (first | intro W g hH | intro W hH); (try simp only [Act.put, pA, pB, pC])))) | ((first | (refine iS1 tab_ok rfl ?_ rfl hH ?_; (focus (first | exact wN rfl | exact rfl)); refine ⟨_, _, _, _, rfl, rfl, rfl, rfl, rfl, ?_⟩) | (refine iSR tab_ok rfl ?_ rfl hH ?_; (focus (first | exact wN rfl | exact rfl)); refine ⟨_, _, _, _, rfl, rfl, rfl, rfl, rfl, ?_, ?_⟩; (focus (repeat (first | exact trivial | assumption | exact OkA.z (by kernel_rfl) (by kernel_rfl) | refine ⟨rfl, ?_⟩ | refine ⟨?_, ?_⟩)))) | (refine hAl tab_ok rfl ?_ hH rfl ?_; (focus (first | exact wN rfl | exact rfl))) | (refine hBd tab_ok rfl ?_ rfl rfl rfl hH ?_; (focus (first | exact wN rfl | exact rfl)); refine ⟨?_, ?_, ?_⟩; rotate_left; (focus (repeat (first | exact BR.nil | refine BR.one rfl rfl rfl ?_ | (refine BR.row rfl rfl rfl rfl ?_ ?_; (focus (repeat (first | exact trivial | assumption | exact OkA.z (by kernel_rfl) (by kernel_rfl) | refine ⟨rfl, ?_⟩ | refine ⟨?_, ?_⟩)))))))) | ((with_reducible refine callH hH ?_); refine ⟨?_, ?_, ?_⟩; rotate_left; (focus (first | (with_reducible exact ra _))))); clear hH; (first | intro W g hH | intro W hH); ((try simp only [Act.put, pA, pB, pC]))))
      obtain ⟨g5, g2, hg5, hg2⟩ := names3 hH
      subst hg5
      subst hg2
      go_loopw [10] (fun i wr => ∃ (X : List Ad) (j : Nat), i = .int .i64 (j : Int) ∧ j ≤ m ∧ Hid (X.length = j) ∧ Hid (X = refL s 4 j) ∧ ((X = [] ∧ Hp w.heap.size w wr [(g, 37, true, [.one (.int .i64 (n : Int)), .many A 17, .one (.bool qe), .one (.slice none 0 0), .one (.bool qg)]), (g5, 37, true, [.many (zeroL Try.prog 30) 20, .one (.bool false)]), (g2, 37, true, [.many (zeroL Try.prog 30) 20, .one (.bool false)])]) ∨ (∃ (go cc q : Nat) (J : List Value), Grow 17 X.length cc (X.length * 17) q ∧ OkA J q ∧ Hp w.heap.size w wr [(go, 25, true, [.many (adsL X) (X.length * 17), .many J q]), (g, 37, true, [.one (.int .i64 (n : Int)), .many A 17, .one (.bool qe), .one (.slice (some ⟨go, 0, none⟩) X.length cc), .one (.bool qg)]), (g5, 37, true, [.many (zeroL Try.prog 30) 20, .one (.bool false)]), (g2, 37, true, [.many (zeroL Try.prog 30) 20, .one (.bool false)])]))) (fun i _ => m - (intOf i).toNat)
      case atStart => exact ⟨[], 0, rfl, by omega, Lib.hid rfl, Lib.hid rfl, .inl ⟨rfl, hH⟩⟩
      case round =>
        clear hH
        obtain ⟨X, j, rfl, hj, hXl, hX, hor⟩ := hrel
        by_cases hjm : j < m
        · have dj : decide ((j : Int) < (m : Int)) = true := decide_eq_true (by omega)
          have hb : 8 + 4 * j + 4 ≤ s.size := by
            have : 4 * (j + 1) ≤ 4 * m := Nat.mul_le_mul_left _ hjm
            omega
          have R : ∀ w, Gives Try.prog 37 #[.string (s.extract (8 + 4 * j) (8 + 4 * j + 4))] w (.tuple #[.agg (fls [.many (adL (adR (s.extract (8 + 4 * j) (8 + 4 * j + 4)))) 17]).toArray, .bool true]) := fun w => raRead_r (by rw [extract_size (by omega) (by omega)]; omega)
          have HX2 := Lib.hid (show X ++ [adR (s.extract (8 + 4 * j) (8 + 4 * j + 4))] = refL s 4 (j + 1) by rw [hX.out]; exact refL_snoc.symm)
          clear hX
          generalize adR (s.extract (8 + 4 * j) (8 + 4 * j + 4)) = y at *
          have hSnoc := Lib.hid (adsL_snoc X y)
          have oY := adL_ok y
          obtain ⟨Y, hY⟩ : ∃ Y, Y = adL y := ⟨_, rfl⟩
          rw [← hY] at R oY hSnoc
          have HY := Lib.hid hY
          clear hY
          have hX1 : X.length ≤ 255 := by have := hXl.out; omega
          rcases hor with ⟨rfl, hH⟩ | ⟨go, cc, q, J, hG, oJ, hH⟩
          · go_wp2_with (first | ((refine hSl tab_ok rfl ?_ rfl tabs_ok rfl rfl rfl rfl rfl hH ?_; (focus (first | exact wN rfl | exact rfl)); refine ⟨?_, ?_, ?_⟩; rotate_left; (focus (repeat (first | exact BR.nil | refine BR.one rfl rfl rfl ?_ | (refine BR.row rfl rfl rfl rfl ?_ ?_; (focus (repeat (first | exact trivial | assumption | exact OkA.z (by kernel_rfl) (by kernel_rfl) | refine ⟨rfl, ?_⟩ | refine ⟨?_, ?_⟩))))))); clear hH; intro W g hH; (try simp only [Act.put, pA, pB, pC]))) | (((first | (refine hApp0 0 tab_ok tabs_ok rfl rfl rfl rfl rfl rfl rfl hH rfl rfl rfl ?_; refine ⟨?_, ?_, ?_⟩; (focus (first | omega | (simp; omega))); (focus (first | omega | (simp; omega))))); clear hH; intro W g c p q J hG hL hJ hH; (try simp only [putH, fls, List.append_nil] at hH hL); (try simp only [Act.put, pA, pB, pC]))) | ((first | (refine iL tab_ok rfl ?_ rfl hH ?_; (focus (first | exact wN rfl | exact rfl)); refine ⟨_, _, rfl, rfl, ?_⟩) | (refine iS1 tab_ok rfl ?_ rfl hH ?_; (focus (first | exact wN rfl | exact rfl)); refine ⟨_, _, _, _, rfl, rfl, rfl, rfl, rfl, ?_⟩) | (refine iSR tab_ok rfl ?_ rfl hH ?_; (focus (first | exact wN rfl | exact rfl)); refine ⟨_, _, _, _, rfl, rfl, rfl, rfl, rfl, ?_, ?_⟩; (focus (repeat (first | exact trivial | assumption | exact OkA.z (by kernel_rfl) (by kernel_rfl) | refine ⟨rfl, ?_⟩ | refine ⟨?_, ?_⟩)))) | (refine hAl tab_ok rfl ?_ hH rfl ?_; (focus (first | exact wN rfl | exact rfl))) | ((with_reducible refine callH hH ?_); refine ⟨?_, ?_, ?_⟩; rotate_left; (focus (first | (with_reducible exact R _))))); clear hH; (first | intro W g hH | intro W hH); ((try simp only [Act.put, pA, pB, pC]))))
            have hp := hG.hp
            have hq := hG.hq
            have hle := hG.le
            have hmo := hG.most
            have hj0 : j = 0 := by have := hXl.out; simpa using this.symm
            refine ⟨⟨[y], j + 1, by simp, by omega, Lib.hid (by simp [hj0]), HX2, .inr ⟨g, c, q, J, ⟨rfl, by rw [← hq, hp]; rfl, hle, hmo⟩, hJ, ?_⟩⟩, by simp [intOf]; omega⟩
            have e2 : adsL [y] = Y := by rw [HY.out]; simp [adsL]
            have e1 : [y].length * 17 = p := by rw [hp]; simp
            rw [e2, e1]
            exact hH.sub (SubH.keep (SubH.drop (SubH.drop SubH.refl)))
          · go_wp2_with (first | ((refine hSl tab_ok rfl ?_ rfl tabs_ok rfl rfl rfl rfl rfl hH ?_; (focus (first | exact wN rfl | exact rfl)); refine ⟨?_, ?_, ?_⟩; rotate_left; (focus (repeat (first | exact BR.nil | refine BR.one rfl rfl rfl ?_ | (refine BR.row rfl rfl rfl rfl ?_ ?_; (focus (repeat (first | exact trivial | assumption | exact OkA.z (by kernel_rfl) (by kernel_rfl) | refine ⟨rfl, ?_⟩ | refine ⟨?_, ?_⟩))))))); clear hH; intro W g hH; (try simp only [Act.put, pA, pB, pC]))) | (((first | (refine hApp 2 0 tab_ok tabs_ok rfl rfl rfl rfl rfl rfl rfl hH rfl rfl rfl rfl ?_; refine ⟨?_, ?_, ?_⟩; (focus assumption); (focus (first | omega | (simp; omega))))); clear hH; intro W g c p q J hG hL hJ hH; (try simp only [putH, fls, List.append_nil] at hH hL); (try simp only [Act.put, pA, pB, pC]))) | ((first | (refine iL tab_ok rfl ?_ rfl hH ?_; (focus (first | exact wN rfl | exact rfl)); refine ⟨_, _, rfl, rfl, ?_⟩) | (refine iS1 tab_ok rfl ?_ rfl hH ?_; (focus (first | exact wN rfl | exact rfl)); refine ⟨_, _, _, _, rfl, rfl, rfl, rfl, rfl, ?_⟩) | (refine iSR tab_ok rfl ?_ rfl hH ?_; (focus (first | exact wN rfl | exact rfl)); refine ⟨_, _, _, _, rfl, rfl, rfl, rfl, rfl, ?_, ?_⟩; (focus (repeat (first | exact trivial | assumption | exact OkA.z (by kernel_rfl) (by kernel_rfl) | refine ⟨rfl, ?_⟩ | refine ⟨?_, ?_⟩)))) | (refine hAl tab_ok rfl ?_ hH rfl ?_; (focus (first | exact wN rfl | exact rfl))) | ((with_reducible refine callH hH ?_); refine ⟨?_, ?_, ?_⟩; rotate_left; (focus (first | (with_reducible exact R _))))); clear hH; (first | intro W g hH | intro W hH); ((try simp only [Act.put, pA, pB, pC]))))
            have hp := hG.hp
            have hq := hG.hq
            have hle := hG.le
            have hmo := hG.most
            have e1 : (X ++ [y]).length = X.length + 1 := by simp
            refine ⟨⟨X ++ [y], j + 1, by simp, by omega, Lib.hid (by rw [e1, hXl.out]), HX2, .inr ⟨g, c, q, J, by rw [e1]; exact ⟨rfl, by rw [← hq, hp], hle, hmo⟩, hJ, ?_⟩⟩, by simp [intOf]; omega⟩
            have e2 : (X ++ [y]).length * 17 = p := by rw [hp]; simp
            rw [e2, hSnoc.out, e1]
            exact hH.sub (SubH.drop (SubH.drop SubH.refl))
        · have hjm2 : j = m := by omega
          subst hjm2
          have dj : decide ((j : Int) < (j : Int)) = false := decide_eq_false (by omega)
          have hX1 : X.length ≤ 255 := by have := hXl.out; omega
          have hR := HRES.out
          rw [HN.out, HGA.out, ← hX.out] at hR
          clear HRES HN HGA hX
          obtain ⟨p, cc, D, hya, hDo, hH⟩ : ∃ p cc D, Hid (∀ B w0 W, Hp B w0 W D → AdsAt W p X) ∧ Hid (∀ r ∈ D, r.2.2.1 = true) ∧ Hp w.heap.size w wr ((g, 37, true, [.one (.int .i64 (n : Int)), .many A 17, .one (.bool qe), .one (.slice p X.length cc), .one (.bool qg)]) :: (g5, 37, true, [.many (zeroL Try.prog 30) 20, .one (.bool false)]) :: (g2, 37, true, [.many (zeroL Try.prog 30) 20, .one (.bool false)]) :: D) := by
            rcases hor with ⟨rfl, hH⟩ | ⟨go, cc, q, J, hG, oJ, hH⟩
            · exact ⟨none, 0, [], Lib.hid (fun _ _ _ _ => AdsAt.nil), Lib.hid (fun r hr => by simp at hr), hH⟩
            · exact ⟨some ⟨go, 0, none⟩, cc, [(go, _, true, [.many (adsL X) (X.length * 17), .many J q])], Lib.hid (fun B w0 W h => by exact adsAt_row (J := J) (by omega) (by simpa [fls] using (h.rows.mem (i := 0) rfl).1)), Lib.hid (fun r hr => by simp at hr; rw [hr]), hH.perm ((List.Perm.swap _ _ _).trans (((List.Perm.swap _ _ _).trans ((List.Perm.swap _ _ _).cons _)).cons _))⟩
          clear hor
          have FG := Lib.hid (show ∀ (W : World) (p : Option Addr) (c : Nat), AdsAt W p X → Gives Try.prog 38 #[.agg (fls [.one (.int .i64 (n : Int)), .many A 17, .one (.bool qe), .one (.slice p X.length c), .one (.bool qg)]).toArray] W (.bool (goodC ⟨⟨(n : Int), ga, qe, X⟩, qg⟩)) from fun W p c h => by rw [HA.out]; exact rGoodC_any (x := ⟨⟨(n : Int), ga, qe, X⟩, qg⟩) h (by show X.length ≤ 1000; omega))
          obtain ⟨ch, hch⟩ : ∃ ch, (⟨⟨(n : Int), ga, qe, X⟩, qg⟩ : Ch) = ch := ⟨_, rfl⟩
          have HCH := Lib.hid hch
          rw [hch] at FG hR
          clear hch
          by_cases h7 : 7 < v
          · have d7 : decide (7 < (v : Int)) = true := decide_eq_true (by omega)
            rw [if_pos (.inl h7)] at hR
            subst hR
            clear FG hXl
            go_wp2_with (first | ((first | (refine iL tab_ok rfl ?_ rfl hH ?_; (focus (first | exact wN rfl | exact rfl)); refine ⟨_, _, rfl, rfl, ?_⟩) | (refine iSR tab_ok rfl ?_ rfl hH ?_; (focus (first | exact wN rfl | exact rfl)); refine ⟨_, _, _, _, rfl, rfl, rfl, rfl, rfl, ?_, ?_⟩; (focus (repeat (first | exact trivial | assumption | exact OkA.z (by kernel_rfl) (by kernel_rfl) | refine ⟨rfl, ?_⟩ | refine ⟨?_, ?_⟩))))); clear hH; (first | intro W g hH | intro W hH); ((try simp only [Act.put, pA, pB, pC]))))
            refine retC3 Try.results15 tab_ok 2 rfl rfl hH rfl rfl rfl rfl ?_
            exact RdCP.mk (p := none) (cc := 0) (D := []) (by rw [zchS]; rfl) ⟨hH.nil, by simp⟩ (fun _ _ _ _ => AdsAt.nil)
          have d7 : decide (7 < (v : Int)) = false := decide_eq_false (by omega)
          cases hgd : goodC ch
          · rw [hgd] at FG hR
            rw [if_pos (.inr rfl)] at hR
            subst hR
            clear hgd hXl
            go_wp2_with (first | ((first | (refine iL tab_ok rfl ?_ rfl hH ?_; (focus (first | exact wN rfl | exact rfl)); refine ⟨_, _, rfl, rfl, ?_⟩) | (refine iSR tab_ok rfl ?_ rfl hH ?_; (focus (first | exact wN rfl | exact rfl)); refine ⟨_, _, _, _, rfl, rfl, rfl, rfl, rfl, ?_, ?_⟩; (focus (repeat (first | exact trivial | assumption | exact OkA.z (by kernel_rfl) (by kernel_rfl) | refine ⟨rfl, ?_⟩ | refine ⟨?_, ?_⟩)))) | ((with_reducible refine callH hH ?_); refine ⟨?_, ?_, ?_⟩; rotate_left; (focus (first | (exact FG.out _ _ _ (hya.out _ _ _ (hH.sub (SubH.drop (SubH.drop (SubH.drop SubH.refl)))))))))); clear hH; (first | intro W g hH | intro W hH); ((try simp only [Act.put, pA, pB, pC]))))
            refine retC3 Try.results15 tab_ok 2 rfl rfl hH rfl rfl rfl rfl ?_
            exact RdCP.mk (p := none) (cc := 0) (D := []) (by rw [zchS]; rfl) ⟨hH.nil, by simp⟩ (fun _ _ _ _ => AdsAt.nil)
          · rw [hgd] at FG hR
            rw [if_neg (by simp; omega)] at hR
            subst hR
            clear hgd hXl
            go_wp2_with (first | ((first | (refine iL tab_ok rfl ?_ rfl hH ?_; (focus (first | exact wN rfl | exact rfl)); refine ⟨_, _, rfl, rfl, ?_⟩) | (refine iSR tab_ok rfl ?_ rfl hH ?_; (focus (first | exact wN rfl | exact rfl)); refine ⟨_, _, _, _, rfl, rfl, rfl, rfl, rfl, ?_, ?_⟩; (focus (repeat (first | exact trivial | assumption | exact OkA.z (by kernel_rfl) (by kernel_rfl) | refine ⟨rfl, ?_⟩ | refine ⟨?_, ?_⟩)))) | ((with_reducible refine callH hH ?_); refine ⟨?_, ?_, ?_⟩; rotate_left; (focus (first | (exact FG.out _ _ _ (hya.out _ _ _ (hH.sub (SubH.drop (SubH.drop (SubH.drop SubH.refl)))))))))); clear hH; (first | intro W g hH | intro W hH); ((try simp only [Act.put, pA, pB, pC]))))
            refine retC3 Try.results15 tab_ok 2 rfl rfl hH rfl rfl rfl rfl ?_
            exact RdCP.mk (p := p) (cc := cc) (D := D) (by rw [← HCH.out]; unfold chS; simp only; rw [← HA.out]; rfl) ⟨hH.sub (SubH.drop (SubH.drop (SubH.drop SubH.refl))), hDo.out⟩ (by rw [← HCH.out]; exact hya.out)
  · by_cases h8 : s.size < 20
    · rw [if_pos (.inl h8)] at hres
      subst hres
      have d8 : decide ((s.size : Int) < 20) = true := decide_eq_true (by omega)
      go_enter Try.func15, Try.ntmps15
      go_wp2_with (first | ((first | (refine iL tab_ok rfl ?_ rfl hH ?_; (focus (first | exact wN rfl | exact rfl)); refine ⟨_, _, rfl, rfl, ?_⟩) | (refine iSR tab_ok rfl ?_ rfl hH ?_; (focus (first | exact wN rfl | exact rfl)); refine ⟨_, _, _, _, rfl, rfl, rfl, rfl, rfl, ?_, ?_⟩; (focus (repeat (first | exact trivial | assumption | exact OkA.z (by kernel_rfl) (by kernel_rfl) | refine ⟨rfl, ?_⟩ | refine ⟨?_, ?_⟩)))) | (refine hAl tab_ok rfl ?_ hH rfl ?_; (focus (first | exact wN rfl | exact rfl))) | (refine hBd tab_ok rfl ?_ rfl rfl rfl hH ?_; (focus (first | exact wN rfl | exact rfl)); refine ⟨?_, ?_, ?_⟩; rotate_left; (focus (repeat (first | exact BR.nil | refine BR.one rfl rfl rfl ?_ | (refine BR.row rfl rfl rfl rfl ?_ ?_; (focus (repeat (first | exact trivial | assumption | exact OkA.z (by kernel_rfl) (by kernel_rfl) | refine ⟨rfl, ?_⟩ | refine ⟨?_, ?_⟩))))))))); clear hH; (first | intro W g hH | intro W hH); ((try simp only [Act.put, pA, pB, pC]))))
      refine retC3 Try.results15 tab_ok 1 rfl rfl hH rfl rfl rfl rfl ?_
      exact RdCP.mk (p := none) (cc := 0) (D := []) (by rw [zchS]; rfl) ⟨hH.nil, by simp⟩ (fun _ _ _ _ => AdsAt.nil)
    have d8 : decide ((s.size : Int) < 20) = false := decide_eq_false (by omega)
    have hm := by6_lt s 19
    have hi7 : ∀ W, (Instr.index 9 (.string s) (.int .i64 19)).run Try.prog W = .ok (.int .u8 (by6 s 19 : Int)) W := fun W => by rw [run_idx Try.underlying9 s 19 (by omega) 19 rfl W, by6_get (by omega)]
    simp only [show 3 + 16 = 19 from rfl, show 4 + 16 = 20 from rfl] at hres
    obtain ⟨m, hme⟩ : ∃ m, by6 s 19 = m := ⟨_, rfl⟩
    rw [hme] at hres hm hi7
    clear hme
    by_cases hn : s.size < 20 + 16 * m
    · rw [if_pos (.inr hn)] at hres
      subst hres
      have d9 : decide ((s.size : Int) < 20 + 16 * (m : Int)) = true := decide_eq_true (by omega)
      go_enter Try.func15, Try.ntmps15
      go_wp2_with (first | ((first | (refine iL tab_ok rfl ?_ rfl hH ?_; (focus (first | exact wN rfl | exact rfl)); refine ⟨_, _, rfl, rfl, ?_⟩) | (refine iSR tab_ok rfl ?_ rfl hH ?_; (focus (first | exact wN rfl | exact rfl)); refine ⟨_, _, _, _, rfl, rfl, rfl, rfl, rfl, ?_, ?_⟩; (focus (repeat (first | exact trivial | assumption | exact OkA.z (by kernel_rfl) (by kernel_rfl) | refine ⟨rfl, ?_⟩ | refine ⟨?_, ?_⟩)))) | (refine hAl tab_ok rfl ?_ hH rfl ?_; (focus (first | exact wN rfl | exact rfl))) | (refine hBd tab_ok rfl ?_ rfl rfl rfl hH ?_; (focus (first | exact wN rfl | exact rfl)); refine ⟨?_, ?_, ?_⟩; rotate_left; (focus (repeat (first | exact BR.nil | refine BR.one rfl rfl rfl ?_ | (refine BR.row rfl rfl rfl rfl ?_ ?_; (focus (repeat (first | exact trivial | assumption | exact OkA.z (by kernel_rfl) (by kernel_rfl) | refine ⟨rfl, ?_⟩ | refine ⟨?_, ?_⟩))))))))); clear hH; (first | intro W g hH | intro W hH); ((try simp only [Act.put, pA, pB, pC]))))
      refine retC3 Try.results15 tab_ok 1 rfl rfl hH rfl rfl rfl rfl ?_
      exact RdCP.mk (p := none) (cc := 0) (D := []) (by rw [zchS]; rfl) ⟨hH.nil, by simp⟩ (fun _ _ _ _ => AdsAt.nil)
    · rw [if_neg (by omega)] at hres
      have d9 : decide ((s.size : Int) < 20 + 16 * (m : Int)) = false := decide_eq_false (by omega)
      have rn : ∀ w, Gives Try.prog 36 #[.string (s.extract 1 3)] w (.int .u64 (numAt s 1 2 : Int)) := fun w => rNumAt (by omega) (by omega)
      have ra : ∀ w, Gives Try.prog 37 #[.string (s.extract 3 19)] w (.tuple #[.agg (fls [.many (adL (adR (s.extract 3 19))) 17]).toArray, .bool true]) := fun w => raRead_r (by rw [extract_size (by omega) (by omega)]; omega)
      obtain ⟨qg, hqg⟩ : ∃ q, decide (v % 2 = 1) = q := ⟨_, rfl⟩
      obtain ⟨qe, hqe⟩ : ∃ q, decide (v / 2 % 2 = 1) = q := ⟨_, rfl⟩
      rw [hqg, hqe] at hres
      have e1 : ((v : Int) % 2 == 1) = qg := by rw [← hqg]; by_cases h : v % 2 = 1 <;> simp [h] <;> omega
      have e2 : ((v : Int) / 2 % 2 == 1) = qe := by rw [← hqe]; by_cases h : v / 2 % 2 = 1 <;> simp [h] <;> omega
      have e1' : decide ((v : Int) % 2 = 1) = qg := by rw [← e1]; by_cases h : (v : Int) % 2 = 1 <;> simp [h]
      have e2' : decide ((v : Int) / 2 % 2 = 1) = qe := by rw [← e2]; by_cases h : (v : Int) / 2 % 2 = 1 <;> simp [h]
      clear hqg hqe
      have HRES := Lib.hid hres
      clear hres
      have h8p : 20 ≤ s.size := by omega
      have hnp : 20 + 16 * m ≤ s.size := by omega
      clear h8 hn
      have hnn : numAt s 1 2 < 65536 := numAt_lt s 1 2
      have oA := adL_ok (adR (s.extract 3 19))
      obtain ⟨n, hN⟩ : ∃ n, numAt s 1 2 = n := ⟨_, rfl⟩
      rw [hN] at rn hnn
      have HN := Lib.hid hN
      clear hN
      obtain ⟨ga, hga⟩ : ∃ x, adR (s.extract 3 19) = x := ⟨_, rfl⟩
      rw [hga] at ra oA
      have HGA := Lib.hid hga
      clear hga
      obtain ⟨A, hA⟩ : ∃ Y, Y = adL ga := ⟨_, rfl⟩
      have HA := Lib.hid hA
      rw [← hA] at ra oA
      clear hA
      have u1 : wrap64 (n : Int) = (n : Int) := by unfold wrap64; omega
      go_enter Try.func15, Try.ntmps15
      go_wp2_with (first | ((go_at_call 36; refine callR 0 (hH.re0 (zch_seg _) (zch_ok _)) rfl (fun _ => rn _) ?_; (clear hH; (first | intro W g hH | intro W hH); (try simp only [Act.put, pA, pB, pC])))) | ((first | (refine iS1 tab_ok rfl ?_ rfl hH ?_; (focus (first | exact wN rfl | exact rfl)); refine ⟨_, _, _, _, rfl, rfl, rfl, rfl, rfl, ?_⟩) | (refine iSR tab_ok rfl ?_ rfl hH ?_; (focus (first | exact wN rfl | exact rfl)); refine ⟨_, _, _, _, rfl, rfl, rfl, rfl, rfl, ?_, ?_⟩; (focus (repeat (first | exact trivial | assumption | exact OkA.z (by kernel_rfl) (by kernel_rfl) | refine ⟨rfl, ?_⟩ | refine ⟨?_, ?_⟩)))) | (refine hAl tab_ok rfl ?_ hH rfl ?_; (focus (first | exact wN rfl | exact rfl))) | (refine hBd tab_ok rfl ?_ rfl rfl rfl hH ?_; (focus (first | exact wN rfl | exact rfl)); refine ⟨?_, ?_, ?_⟩; rotate_left; (focus (repeat (first | exact BR.nil | refine BR.one rfl rfl rfl ?_ | (refine BR.row rfl rfl rfl rfl ?_ ?_; (focus (repeat (first | exact trivial | assumption | exact OkA.z (by kernel_rfl) (by kernel_rfl) | refine ⟨rfl, ?_⟩ | refine ⟨?_, ?_⟩)))))))) | ((with_reducible refine callH hH ?_); refine ⟨?_, ?_, ?_⟩; rotate_left; (focus (first | (with_reducible exact ra _))))); clear hH; (first | intro W g hH | intro W hH); ((try simp only [Act.put, pA, pB, pC]))))
      obtain ⟨g5, g2, hg5, hg2⟩ := names3 hH
      subst hg5
      subst hg2
      go_loopw [10] (fun i wr => ∃ (X : List Ad) (j : Nat), i = .int .i64 (j : Int) ∧ j ≤ m ∧ Hid (X.length = j) ∧ Hid (X = refL s 16 j) ∧ ((X = [] ∧ Hp w.heap.size w wr [(g, 37, true, [.one (.int .i64 (n : Int)), .many A 17, .one (.bool qe), .one (.slice none 0 0), .one (.bool qg)]), (g5, 37, true, [.many (zeroL Try.prog 30) 20, .one (.bool false)]), (g2, 37, true, [.many (zeroL Try.prog 30) 20, .one (.bool false)])]) ∨ (∃ (go cc q : Nat) (J : List Value), Grow 17 X.length cc (X.length * 17) q ∧ OkA J q ∧ Hp w.heap.size w wr [(go, 25, true, [.many (adsL X) (X.length * 17), .many J q]), (g, 37, true, [.one (.int .i64 (n : Int)), .many A 17, .one (.bool qe), .one (.slice (some ⟨go, 0, none⟩) X.length cc), .one (.bool qg)]), (g5, 37, true, [.many (zeroL Try.prog 30) 20, .one (.bool false)]), (g2, 37, true, [.many (zeroL Try.prog 30) 20, .one (.bool false)])]))) (fun i _ => m - (intOf i).toNat)
      case atStart => exact ⟨[], 0, rfl, by omega, Lib.hid rfl, Lib.hid rfl, .inl ⟨rfl, hH⟩⟩
      case round =>
        clear hH
        obtain ⟨X, j, rfl, hj, hXl, hX, hor⟩ := hrel
        by_cases hjm : j < m
        · have dj : decide ((j : Int) < (m : Int)) = true := decide_eq_true (by omega)
          have hb : 20 + 16 * j + 16 ≤ s.size := by
            have : 16 * (j + 1) ≤ 16 * m := Nat.mul_le_mul_left _ hjm
            omega
          have R : ∀ w, Gives Try.prog 37 #[.string (s.extract (20 + 16 * j) (20 + 16 * j + 16))] w (.tuple #[.agg (fls [.many (adL (adR (s.extract (20 + 16 * j) (20 + 16 * j + 16)))) 17]).toArray, .bool true]) := fun w => raRead_r (by rw [extract_size (by omega) (by omega)]; omega)
          have HX2 := Lib.hid (show X ++ [adR (s.extract (20 + 16 * j) (20 + 16 * j + 16))] = refL s 16 (j + 1) by rw [hX.out]; exact refL_snoc.symm)
          clear hX
          generalize adR (s.extract (20 + 16 * j) (20 + 16 * j + 16)) = y at *
          have hSnoc := Lib.hid (adsL_snoc X y)
          have oY := adL_ok y
          obtain ⟨Y, hY⟩ : ∃ Y, Y = adL y := ⟨_, rfl⟩
          rw [← hY] at R oY hSnoc
          have HY := Lib.hid hY
          clear hY
          have hX1 : X.length ≤ 255 := by have := hXl.out; omega
          rcases hor with ⟨rfl, hH⟩ | ⟨go, cc, q, J, hG, oJ, hH⟩
          · go_wp2_with (first | ((refine hSl tab_ok rfl ?_ rfl tabs_ok rfl rfl rfl rfl rfl hH ?_; (focus (first | exact wN rfl | exact rfl)); refine ⟨?_, ?_, ?_⟩; rotate_left; (focus (repeat (first | exact BR.nil | refine BR.one rfl rfl rfl ?_ | (refine BR.row rfl rfl rfl rfl ?_ ?_; (focus (repeat (first | exact trivial | assumption | exact OkA.z (by kernel_rfl) (by kernel_rfl) | refine ⟨rfl, ?_⟩ | refine ⟨?_, ?_⟩))))))); clear hH; intro W g hH; (try simp only [Act.put, pA, pB, pC]))) | (((first | (refine hApp0 0 tab_ok tabs_ok rfl rfl rfl rfl rfl rfl rfl hH rfl rfl rfl ?_; refine ⟨?_, ?_, ?_⟩; (focus (first | omega | (simp; omega))); (focus (first | omega | (simp; omega))))); clear hH; intro W g c p q J hG hL hJ hH; (try simp only [putH, fls, List.append_nil] at hH hL); (try simp only [Act.put, pA, pB, pC]))) | ((first | (refine iL tab_ok rfl ?_ rfl hH ?_; (focus (first | exact wN rfl | exact rfl)); refine ⟨_, _, rfl, rfl, ?_⟩) | (refine iS1 tab_ok rfl ?_ rfl hH ?_; (focus (first | exact wN rfl | exact rfl)); refine ⟨_, _, _, _, rfl, rfl, rfl, rfl, rfl, ?_⟩) | (refine iSR tab_ok rfl ?_ rfl hH ?_; (focus (first | exact wN rfl | exact rfl)); refine ⟨_, _, _, _, rfl, rfl, rfl, rfl, rfl, ?_, ?_⟩; (focus (repeat (first | exact trivial | assumption | exact OkA.z (by kernel_rfl) (by kernel_rfl) | refine ⟨rfl, ?_⟩ | refine ⟨?_, ?_⟩)))) | (refine hAl tab_ok rfl ?_ hH rfl ?_; (focus (first | exact wN rfl | exact rfl))) | ((with_reducible refine callH hH ?_); refine ⟨?_, ?_, ?_⟩; rotate_left; (focus (first | (with_reducible exact R _))))); clear hH; (first | intro W g hH | intro W hH); ((try simp only [Act.put, pA, pB, pC]))))
            have hp := hG.hp
            have hq := hG.hq
            have hle := hG.le
            have hmo := hG.most
            have hj0 : j = 0 := by have := hXl.out; simpa using this.symm
            refine ⟨⟨[y], j + 1, by simp, by omega, Lib.hid (by simp [hj0]), HX2, .inr ⟨g, c, q, J, ⟨rfl, by rw [← hq, hp]; rfl, hle, hmo⟩, hJ, ?_⟩⟩, by simp [intOf]; omega⟩
            have e2 : adsL [y] = Y := by rw [HY.out]; simp [adsL]
            have e1 : [y].length * 17 = p := by rw [hp]; simp
            rw [e2, e1]
            exact hH.sub (SubH.keep (SubH.drop (SubH.drop SubH.refl)))
          · go_wp2_with (first | ((refine hSl tab_ok rfl ?_ rfl tabs_ok rfl rfl rfl rfl rfl hH ?_; (focus (first | exact wN rfl | exact rfl)); refine ⟨?_, ?_, ?_⟩; rotate_left; (focus (repeat (first | exact BR.nil | refine BR.one rfl rfl rfl ?_ | (refine BR.row rfl rfl rfl rfl ?_ ?_; (focus (repeat (first | exact trivial | assumption | exact OkA.z (by kernel_rfl) (by kernel_rfl) | refine ⟨rfl, ?_⟩ | refine ⟨?_, ?_⟩))))))); clear hH; intro W g hH; (try simp only [Act.put, pA, pB, pC]))) | (((first | (refine hApp 2 0 tab_ok tabs_ok rfl rfl rfl rfl rfl rfl rfl hH rfl rfl rfl rfl ?_; refine ⟨?_, ?_, ?_⟩; (focus assumption); (focus (first | omega | (simp; omega))))); clear hH; intro W g c p q J hG hL hJ hH; (try simp only [putH, fls, List.append_nil] at hH hL); (try simp only [Act.put, pA, pB, pC]))) | ((first | (refine iL tab_ok rfl ?_ rfl hH ?_; (focus (first | exact wN rfl | exact rfl)); refine ⟨_, _, rfl, rfl, ?_⟩) | (refine iS1 tab_ok rfl ?_ rfl hH ?_; (focus (first | exact wN rfl | exact rfl)); refine ⟨_, _, _, _, rfl, rfl, rfl, rfl, rfl, ?_⟩) | (refine iSR tab_ok rfl ?_ rfl hH ?_; (focus (first | exact wN rfl | exact rfl)); refine ⟨_, _, _, _, rfl, rfl, rfl, rfl, rfl, ?_, ?_⟩; (focus (repeat (first | exact trivial | assumption | exact OkA.z (by kernel_rfl) (by kernel_rfl) | refine ⟨rfl, ?_⟩ | refine ⟨?_, ?_⟩)))) | (refine hAl tab_ok rfl ?_ hH rfl ?_; (focus (first | exact wN rfl | exact rfl))) | ((with_reducible refine callH hH ?_); refine ⟨?_, ?_, ?_⟩; rotate_left; (focus (first | (with_reducible exact R _))))); clear hH; (first | intro W g hH | intro W hH); ((try simp only [Act.put, pA, pB, pC]))))
            have hp := hG.hp
            have hq := hG.hq
            have hle := hG.le
            have hmo := hG.most
            have e1 : (X ++ [y]).length = X.length + 1 := by simp
            refine ⟨⟨X ++ [y], j + 1, by simp, by omega, Lib.hid (by rw [e1, hXl.out]), HX2, .inr ⟨g, c, q, J, by rw [e1]; exact ⟨rfl, by rw [← hq, hp], hle, hmo⟩, hJ, ?_⟩⟩, by simp [intOf]; omega⟩
            have e2 : (X ++ [y]).length * 17 = p := by rw [hp]; simp
            rw [e2, hSnoc.out, e1]
            exact hH.sub (SubH.drop (SubH.drop SubH.refl))
        · have hjm2 : j = m := by omega
          subst hjm2
          have dj : decide ((j : Int) < (j : Int)) = false := decide_eq_false (by omega)
          have hX1 : X.length ≤ 255 := by have := hXl.out; omega
          have hR := HRES.out
          rw [HN.out, HGA.out, ← hX.out] at hR
          clear HRES HN HGA hX
          obtain ⟨p, cc, D, hya, hDo, hH⟩ : ∃ p cc D, Hid (∀ B w0 W, Hp B w0 W D → AdsAt W p X) ∧ Hid (∀ r ∈ D, r.2.2.1 = true) ∧ Hp w.heap.size w wr ((g, 37, true, [.one (.int .i64 (n : Int)), .many A 17, .one (.bool qe), .one (.slice p X.length cc), .one (.bool qg)]) :: (g5, 37, true, [.many (zeroL Try.prog 30) 20, .one (.bool false)]) :: (g2, 37, true, [.many (zeroL Try.prog 30) 20, .one (.bool false)]) :: D) := by
            rcases hor with ⟨rfl, hH⟩ | ⟨go, cc, q, J, hG, oJ, hH⟩
            · exact ⟨none, 0, [], Lib.hid (fun _ _ _ _ => AdsAt.nil), Lib.hid (fun r hr => by simp at hr), hH⟩
            · exact ⟨some ⟨go, 0, none⟩, cc, [(go, _, true, [.many (adsL X) (X.length * 17), .many J q])], Lib.hid (fun B w0 W h => by exact adsAt_row (J := J) (by omega) (by simpa [fls] using (h.rows.mem (i := 0) rfl).1)), Lib.hid (fun r hr => by simp at hr; rw [hr]), hH.perm ((List.Perm.swap _ _ _).trans (((List.Perm.swap _ _ _).trans ((List.Perm.swap _ _ _).cons _)).cons _))⟩
          clear hor
          have FG := Lib.hid (show ∀ (W : World) (p : Option Addr) (c : Nat), AdsAt W p X → Gives Try.prog 38 #[.agg (fls [.one (.int .i64 (n : Int)), .many A 17, .one (.bool qe), .one (.slice p X.length c), .one (.bool qg)]).toArray] W (.bool (goodC ⟨⟨(n : Int), ga, qe, X⟩, qg⟩)) from fun W p c h => by rw [HA.out]; exact rGoodC_any (x := ⟨⟨(n : Int), ga, qe, X⟩, qg⟩) h (by show X.length ≤ 1000; omega))
          obtain ⟨ch, hch⟩ : ∃ ch, (⟨⟨(n : Int), ga, qe, X⟩, qg⟩ : Ch) = ch := ⟨_, rfl⟩
          have HCH := Lib.hid hch
          rw [hch] at FG hR
          clear hch
          by_cases h7 : 7 < v
          · have d7 : decide (7 < (v : Int)) = true := decide_eq_true (by omega)
            rw [if_pos (.inl h7)] at hR
            subst hR
            clear FG hXl
            go_wp2_with (first | ((first | (refine iL tab_ok rfl ?_ rfl hH ?_; (focus (first | exact wN rfl | exact rfl)); refine ⟨_, _, rfl, rfl, ?_⟩) | (refine iSR tab_ok rfl ?_ rfl hH ?_; (focus (first | exact wN rfl | exact rfl)); refine ⟨_, _, _, _, rfl, rfl, rfl, rfl, rfl, ?_, ?_⟩; (focus (repeat (first | exact trivial | assumption | exact OkA.z (by kernel_rfl) (by kernel_rfl) | refine ⟨rfl, ?_⟩ | refine ⟨?_, ?_⟩))))); clear hH; (first | intro W g hH | intro W hH); ((try simp only [Act.put, pA, pB, pC]))))
            refine retC3 Try.results15 tab_ok 2 rfl rfl hH rfl rfl rfl rfl ?_
            exact RdCP.mk (p := none) (cc := 0) (D := []) (by rw [zchS]; rfl) ⟨hH.nil, by simp⟩ (fun _ _ _ _ => AdsAt.nil)
          have d7 : decide (7 < (v : Int)) = false := decide_eq_false (by omega)
          cases hgd : goodC ch
          · rw [hgd] at FG hR
            rw [if_pos (.inr rfl)] at hR
            subst hR
            clear hgd hXl
            go_wp2_with (first | ((first | (refine iL tab_ok rfl ?_ rfl hH ?_; (focus (first | exact wN rfl | exact rfl)); refine ⟨_, _, rfl, rfl, ?_⟩) | (refine iSR tab_ok rfl ?_ rfl hH ?_; (focus (first | exact wN rfl | exact rfl)); refine ⟨_, _, _, _, rfl, rfl, rfl, rfl, rfl, ?_, ?_⟩; (focus (repeat (first | exact trivial | assumption | exact OkA.z (by kernel_rfl) (by kernel_rfl) | refine ⟨rfl, ?_⟩ | refine ⟨?_, ?_⟩)))) | ((with_reducible refine callH hH ?_); refine ⟨?_, ?_, ?_⟩; rotate_left; (focus (first | (exact FG.out _ _ _ (hya.out _ _ _ (hH.sub (SubH.drop (SubH.drop (SubH.drop SubH.refl)))))))))); clear hH; (first | intro W g hH | intro W hH); ((try simp only [Act.put, pA, pB, pC]))))
            refine retC3 Try.results15 tab_ok 2 rfl rfl hH rfl rfl rfl rfl ?_
            exact RdCP.mk (p := none) (cc := 0) (D := []) (by rw [zchS]; rfl) ⟨hH.nil, by simp⟩ (fun _ _ _ _ => AdsAt.nil)
          · rw [hgd] at FG hR
            rw [if_neg (by simp; omega)] at hR
            subst hR
            clear hgd hXl
            go_wp2_with (first | ((first | (refine iL tab_ok rfl ?_ rfl hH ?_; (focus (first | exact wN rfl | exact rfl)); refine ⟨_, _, rfl, rfl, ?_⟩) | (refine iSR tab_ok rfl ?_ rfl hH ?_; (focus (first | exact wN rfl | exact rfl)); refine ⟨_, _, _, _, rfl, rfl, rfl, rfl, rfl, ?_, ?_⟩; (focus (repeat (first | exact trivial | assumption | exact OkA.z (by kernel_rfl) (by kernel_rfl) | refine ⟨rfl, ?_⟩ | refine ⟨?_, ?_⟩)))) | ((with_reducible refine callH hH ?_); refine ⟨?_, ?_, ?_⟩; rotate_left; (focus (first | (exact FG.out _ _ _ (hya.out _ _ _ (hH.sub (SubH.drop (SubH.drop (SubH.drop SubH.refl)))))))))); clear hH; (first | intro W g hH | intro W hH); ((try simp only [Act.put, pA, pB, pC]))))
            refine retC3 Try.results15 tab_ok 2 rfl rfl hH rfl rfl rfl rfl ?_
            exact RdCP.mk (p := p) (cc := cc) (D := D) (by rw [← HCH.out]; unfold chS; simp only; rw [← HA.out]; rfl) ⟨hH.sub (SubH.drop (SubH.drop (SubH.drop SubH.refl))), hDo.out⟩ (by rw [← HCH.out]; exact hya.out)
end
end Go.Proofs.Ytdbdlhmgokllaaa
