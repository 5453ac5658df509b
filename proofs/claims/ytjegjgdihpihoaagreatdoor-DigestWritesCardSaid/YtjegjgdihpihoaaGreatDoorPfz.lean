/-
  Pfz: Pf, Pg, Ph in one text.
-/
import Derived.Test.YtjegjgdihpihoaaGreatDoorPbz
import Derived.Test.YtjegjgdihpihoaaGreatDoorPez
import Derived.Test.YtjegjgdihpihoaaGreatDoorIn
namespace Go.Proofs.YtjegjgdihpihoaaGreatDoor
-- %in
section
open Go.ChangeShapes Go.WideShapes Go.ChangeAt Go.RowKit
set_option linter.unusedVariables false
set_option linter.unusedSimpArgs false
set_option maxRecDepth 20000
attribute [local irreducible] wpList

/-- the words' texts from one place on -/
def wL (h : Nat → List UInt8) (f n : Nat) : List (List UInt8) := (List.range' f n).map h
theorem wL_len (h : Nat → List UInt8) (f n : Nat) : (wL h f n).length = n := by simp [wL]
theorem wL_snoc (h : Nat → List UInt8) (f n : Nat) : wL h f (n + 1) = wL h f n ++ [h (f + n)] := by unfold wL; rw [List.range'_concat]; simp
theorem join_len (sep : List UInt8) (k : Nat) (hs : sep.length ≤ 1) : ∀ L : List (List UInt8), (∀ x ∈ L, x.length ≤ k) → (Lib.join L sep).length ≤ L.length * (k + 1)
  | [], _ => by simp [Lib.join]
  | x :: r, h => by
    rw [← Pr.grow_join]
    have hx := h x (by simp)
    have key : ∀ (r : List (List UInt8)) (s : List UInt8), (∀ x ∈ r, x.length ≤ k) → (r.foldl (fun s y => s ++ sep ++ y) s).length ≤ s.length + r.length * (k + 1) := by
      intro r
      induction r with
      | nil => intro s _; simp
      | cons y r ih =>
        intro s hr
        have := ih (s ++ sep ++ y) (fun z hz => hr z (by simp [hz]))
        have hy := hr y (by simp)
        rw [List.foldl_cons]
        simp only [List.length_append, List.length_cons] at this ⊢
        rw [Nat.succ_mul]; omega
    have := key r x (fun z hz => h z (by simp [hz]))
    rw [List.length_cons, Nat.succ_mul]; omega
theorem wdA_lt (a : Ad) (i : Nat) : wdA a i ≤ 65535 := by
  have := b4_lt a (2 * i); have := b4_lt a (2 * i + 1); unfold wdA; omega
theorem wdA_z (a : Ad) {i : Nat} (h : i < 8) : (zsA a)[i]? = some true ↔ wdA a i = 0 := by
  rw [zsA_at a h]; unfold wdA; omega
section
variable {w : World} {a : Ad}
theorem orW {x y : Nat} (hx : x < 256) (hy : y < 256) : bits BinOp.or IntKind.u64 ((x : Int) * 256) (y : Int) = 256 * (x : Int) + (y : Int) := by
  rw [show (x : Int) * 256 = ((x * 2 ^ 8 : Nat) : Int) by omega, u64_or_nat _ _ (by omega) (by omega), nat_join 8 _ _ (by omega) (by omega)]
  omega
theorem word_any {i : Nat} (hi : i < 8) : Gives Tryz.prog 100 #[.agg (fls [.many (adL a) 17]).toArray, .int .i64 (i : Int)] w (.int .u64 (wdA a i : Int)) := by
  refine Gives.of ?_
  have oA := adL_ok a
  have cx := cell4 (a := a) (j := 2 * i) (by omega)
  have cy := cell4 (a := a) (j := 2 * i + 1) (by omega)
  have bx := b4_lt a (2 * i)
  have bY := b4_lt a (2 * i + 1)
  have hor := orW bx bY
  have e := Lib.hid (show (wdA a i : Int) = 256 * (b4 a (2 * i) : Int) + (b4 a (2 * i + 1) : Int) by unfold wdA; omega)
  generalize (wdA a i : Int) = r at *
  generalize b4 a (2 * i) = x at *
  generalize b4 a (2 * i + 1) = y at *
  generalize adL a = A at *
  have hH := Hp.refl w
  go_enter Tryz.func100, Tryz.ntmps100
  go_wp2_with (first | ((first | (refine hBx rfl ?_ rfl hH ?_ ?_; (focus (first | exact wN rfl | exact rfl)); (focus (repeat (first | exact trivial | assumption | exact OkA.z (by kernel_rfl) (by kernel_rfl) | refine ⟨rfl, ?_⟩ | refine ⟨?_, ?_⟩))))); clear hH; (first | intro W g hH | intro W hH); ((try simp only [Act.put, pA, pB, pC]))))
  ((with_reducible refine regQ hH (by kernel_rfl) (by kernel_rfl) ?_); intro hne; (repeat (first | (go_big_quiet_want; (first | ((refine qLx1 0 tab_ok rfl rfl rfl rfl rfl ?_; (first | refine ⟨_, _, cx, rfl, ?_⟩ | refine ⟨_, _, cy, rfl, ?_⟩)))); (try simp only [Act.put, pA, pB, pC]); go_big_quiet_on) | go_big_quiet_step (fail))); refine wpQuiet_nil ?_; clear hne hH; intro W hH)
  go_wp2_with (fail)
  go_ret
  exact ⟨congrArg (fun x => Ending.returned (Value.int .u64 x)) e.out.symm, hH.below⟩
set_option maxHeartbeats 2000000 in
theorem row_any : Gives Tryz.prog 82 #[.agg (fls [.many (adL a) 17]).toArray] w (.tuple #[.int .i64 ((Pr.rowP (zsA a) 9 0 (0, 1)).1 : Int), .int .i64 ((Pr.rowP (zsA a) 9 0 (0, 1)).2 : Int)]) := by
  refine Gives.of ?_
  have oA := adL_ok a
  have HW := Lib.hid (fun i (h : i < 8) w => word_any (a := a) (w := w) h)
  have hz := zsA_len a
  have HZ := Lib.hid (fun i (h : i < 8) => wdA_z a h)
  generalize zsA a = z at *
  generalize wdA a = wd at *
  generalize adL a = A at *
  obtain ⟨RR, hRR⟩ : ∃ r, Pr.rowP z 9 0 (0, 1) = r := ⟨_, rfl⟩
  rw [hRR]
  have HRR := Lib.hid hRR
  have HR := Lib.hid (fun i k => Pr.runAt_lt (z := z) (i := i) (k := k) hz)
  have HM := Lib.hid (fun i => Pr.runAt_le z i hz)
  clear hRR hz
  have hH := Hp.refl w
  go_enter Tryz.func82, Tryz.ntmps82
  go_wp2_with (first | ((first | (refine hBx rfl ?_ rfl hH ?_ ?_; (focus (first | exact wN rfl | exact rfl)); (focus (repeat (first | exact trivial | assumption | exact OkA.z (by kernel_rfl) (by kernel_rfl) | refine ⟨rfl, ?_⟩ | refine ⟨?_, ?_⟩))))); clear hH; (first | intro W g hH | intro W hH); ((try simp only [Act.put, pA, pB, pC]))))
  go_loopw [4, 5, 6] (fun t n i wr => ∃ (j f o m : Nat), i = .int .i64 (j : Int) ∧ j ≤ 9 ∧ t = .int .i64 (o : Int) ∧ n = .int .i64 (m : Int) ∧ m ≤ 8 ∧ 9 ≤ f + j ∧ Pr.rowP z f j (o, m) = RR ∧ Hp w.heap.size w wr [(_, 24, true, [.many A 17])]) (fun _ _ i _ => 9 - (intOf i).toNat)
  case atStart => exact ⟨0, 9, 0, 1, rfl, by omega, rfl, rfl, by omega, by omega, HRR.out, hH⟩
  case round =>
    clear hH
    obtain ⟨j, f, o, m, rfl, hj, rfl, rfl, hm8, hf, hR, hH⟩ := hrel
    by_cases h8 : j < 8
    · have d8 : decide (j < 8) = true := decide_eq_true h8
      obtain ⟨f', rfl⟩ : ∃ k, f = k + 1 := ⟨f - 1, by omega⟩
      rw [Pr.rowP, if_pos h8] at hR
      have hle := HM.out j
      have HRj := Lib.hid (HR.out j)
      have HR1 := Lib.hid hR
      clear hR HRR
      generalize Pr.runAt z j = run at *
      go_wp2_with (fail)
      go_loopw [7] (fun k wr => ∃ q : Nat, k = .int .i64 (q : Int) ∧ q ≤ run ∧ Hp w.heap.size w wr [(_, 24, true, [.many A 17])]) (fun k _ => 8 - (intOf k).toNat)
      case atStart => exact ⟨0, rfl, by omega, hH⟩
      case round =>
        clear hH
        obtain ⟨q, rfl, hq, hH⟩ := hrel
        have HE := Lib.hid (HRj.out q hq)
        by_cases hgo : q < run
        · have hh := HE.out.1 hgo
          have d1 : decide (j + q < 8) = true := decide_eq_true hh.1
          have c1 := hh.1
          have hxy := (HZ.out (j + q) hh.1).1 hh.2
          have fW := HW.out (j + q) hh.1
          rw [hxy] at fW
          rw [show ((j + q : Nat) : Int) = (j : Int) + (q : Int) by omega] at fW
          clear hh hxy
          go_wp2_with (first | ((first | (refine iL tab_ok rfl ?_ rfl hH ?_; (focus (first | exact wN rfl | exact rfl)); refine ⟨_, _, rfl, rfl, ?_⟩) | ((with_reducible refine callH hH ?_); refine ⟨?_, ?_, ?_⟩; rotate_left; (focus (first | (with_reducible exact fW _))))); clear hH; (first | intro W g hH | intro W hH); ((try simp only [Act.put, pA, pB, pC]))))
          exact ⟨⟨q + 1, by simp, by omega, hH⟩, by simp [intOf]; omega⟩
        · obtain rfl : q = run := by omega
          have hq8 : j + q ≤ 8 := by omega
          have hlv : (8 ≤ j + q ∧ decide (j + q < 8) = false ∧ decide ((j : Int) + (q : Int) < 8) = false) ∨ (∃ x : Nat, j + q < 8 ∧ decide (j + q < 8) = true ∧ (∀ w, Gives Tryz.prog 100 #[.agg (fls [.many A 17]).toArray, .int .i64 ((j : Int) + (q : Int))] w (.int .u64 (x : Int))) ∧ ((x : Int) == 0) = false) := by
            by_cases c1 : j + q < 8
            · have fW := HW.out (j + q) c1
              rw [show ((j + q : Nat) : Int) = (j : Int) + (q : Int) by omega] at fW
              refine .inr ⟨_, c1, decide_eq_true c1, fW, ?_⟩
              rw [beq_eq_false_iff_ne]
              intro e
              exact hgo (HE.out.2 ⟨c1, (HZ.out _ c1).2 (by omega)⟩)
            · exact .inl ⟨by omega, decide_eq_false c1, decide_eq_false (by omega)⟩
          clear HE hgo HRj
          have HR2 := HR1.out
          clear HR1
          by_cases hm : m < q
          · have dm : decide (m < q) = true := decide_eq_true hm
            rw [if_pos hm] at HR2
            have HR3 := Lib.hid HR2
            clear HR2
            rcases hlv with ⟨c1, d1, d2⟩ | ⟨x, c1, d1, fW, tx⟩
            all_goals (
              go_wp2_with (first | ((first | (refine iL tab_ok rfl ?_ rfl hH ?_; (focus (first | exact wN rfl | exact rfl)); refine ⟨_, _, rfl, rfl, ?_⟩) | ((with_reducible refine callH hH ?_); refine ⟨?_, ?_, ?_⟩; rotate_left; (focus (first | (with_reducible exact fW _))))); clear hH; (first | intro W g hH | intro W hH); ((try simp only [Act.put, pA, pB, pC]))))
              all_goals exact ⟨⟨j + q + 1, f', j, q, by go_num, by omega, rfl, rfl, by omega, by omega, HR3.out, hH⟩, by simp [intOf]; omega⟩)
          · have dm : decide (m < q) = false := decide_eq_false hm
            rw [if_neg hm] at HR2
            have HR3 := Lib.hid HR2
            clear HR2
            rcases hlv with ⟨c1, d1, d2⟩ | ⟨x, c1, d1, fW, tx⟩
            all_goals (
              go_wp2_with (first | ((first | (refine iL tab_ok rfl ?_ rfl hH ?_; (focus (first | exact wN rfl | exact rfl)); refine ⟨_, _, rfl, rfl, ?_⟩) | ((with_reducible refine callH hH ?_); refine ⟨?_, ?_, ?_⟩; rotate_left; (focus (first | (with_reducible exact fW _))))); clear hH; (first | intro W g hH | intro W hH); ((try simp only [Act.put, pA, pB, pC]))))
              all_goals exact ⟨⟨j + q + 1, f', o, m, by go_num, by omega, rfl, rfl, by omega, by omega, HR3.out, hH⟩, by simp [intOf]; omega⟩)
    · have d8 : decide (j < 8) = false := decide_eq_false h8
      have hR2 : (o, m) = RR := by
        cases f with
        | zero => exact hR
        | succ f => rw [Pr.rowP, if_neg h8] at hR; exact hR
      subst hR2
      clear hR HR HM HRR HZ HW
      go_wp2_with (fail)
      go_ret2
      exact ⟨rfl, hH.below⟩
set_option maxHeartbeats 2000000 in
theorem list_any (hl : LaidW w) {f n : Nat} (hf : f + n ≤ 8) : Gives Tryz.prog 83 #[.agg (fls [.many (adL a) 17]).toArray, .int .i64 (f : Int), .int .i64 ((f + n : Nat) : Int)] w (.string (str (Lib.join (wL (h16 a) f n) [58]))) := by
  refine Gives.of ?_
  have oA := adL_ok a
  have HW := Lib.hid (fun i (h : i < 8) w => word_any (a := a) (w := w) h)
  have HF := Lib.hid (show ∀ W, Below w.heap.size w W → ∀ i, Gives Tryz.prog 101 #[.int .u64 (wdA a i : Int), .int .i64 16] W (.string (str (h16 a i))) from fun W hb i => fmtU (hl.below hb) (wdA_lt a i))
  have HJ := Lib.hid (show ∀ L : List (List UInt8), L = wL (h16 a) f n → L.length ≤ 8 ∧ (Lib.join L [58]).length ≤ 140737488355328 from fun L hL => by
    subst hL
    have := join_len [58] 65536 (by simp) (wL (h16 a) f n) (fun x hx => by
      unfold wL at hx
      obtain ⟨i, _, rfl⟩ := List.mem_map.1 hx
      exact h16_len a i)
    rw [wL_len] at this ⊢
    omega)
  clear hl
  generalize h16 a = h at *
  generalize wdA a = wd at *
  generalize adL a = A at *
  have hH := Hp.refl w
  have hfn : ((f + n : Nat) : Int) = (f : Int) + (n : Int) := by omega
  rw [hfn]
  clear hfn
  go_enter Tryz.func83, Tryz.ntmps83
  go_wp2_with (first | ((first | (refine hBx rfl ?_ rfl hH ?_ ?_; (focus (first | exact wN rfl | exact rfl)); (focus (repeat (first | exact trivial | assumption | exact OkA.z (by kernel_rfl) (by kernel_rfl) | refine ⟨rfl, ?_⟩ | refine ⟨?_, ?_⟩))))); clear hH; (first | intro W g hH | intro W hH); ((try simp only [Act.put, pA, pB, pC]))))
  go_loopw [7, 8] (fun s i wr => ∃ (j : Nat), i = .int .i64 ((f : Int) + (j : Int)) ∧ j ≤ n ∧ ((j = 0 ∧ s = .slice none 0 0 ∧ Hp w.heap.size w wr [(g, 24, true, [.many A 17])]) ∨ (∃ gl c q J X, Hid (X = wL h f j) ∧ Hid (X.length = j) ∧ s = .slice (some ⟨gl, 0, none⟩) X.length c ∧ Grow 1 X.length c X.length q ∧ OkA J q ∧ Hp w.heap.size w wr [(gl, 9, true, [.many (strsL X) X.length, .many J q]), (g, 24, true, [.many A 17])]))) (fun _ i _ => f + n - (intOf i).toNat)
  case atStart => exact ⟨0, by simp, by omega, .inl ⟨rfl, rfl, hH⟩⟩
  case round =>
    clear hH
    obtain ⟨j, rfl, hj, hor⟩ := hrel
    by_cases hjn : j < n
    · have dj : decide (j < n) = true := decide_eq_true hjn
      have fW := HW.out (f + j) (by omega)
      rw [show ((f + j : Nat) : Int) = (f : Int) + (j : Int) by omega] at fW
      have fF := Lib.hid (fun W hb => HF.out W hb (f + j))
      have hsn := Lib.hid (wL_snoc h f j)
      generalize wd (f + j) = x at *
      generalize h (f + j) = D at *
      rcases hor with ⟨rfl, rfl, hH⟩ | ⟨gl, c, q, J, X, hX, hXj, rfl, hG, oJ, hH⟩
      · have fW0 : ∀ w, Gives Tryz.prog 100 #[.agg (fls [.many A 17]).toArray, .int .i64 (f : Int)] w (.int .u64 (x : Int)) := fun w => by have := fW w; simpa using this
        clear fW
        go_wp2_with (first | ((refine hSl tab_ok rfl ?_ rfl tabs_ok rfl rfl rfl rfl rfl hH ?_; (focus (first | exact wN rfl | exact rfl)); refine ⟨?_, ?_, ?_⟩; rotate_left; (focus (repeat (first | exact BR.nil | refine BR.one rfl rfl rfl ?_ | (refine BR.row rfl rfl rfl rfl ?_ ?_; (focus (repeat (first | exact trivial | assumption | exact OkA.z (by kernel_rfl) (by kernel_rfl) | refine ⟨rfl, ?_⟩ | refine ⟨?_, ?_⟩))))))); clear hH; intro W g hH; (try simp only [Act.put, pA, pB, pC]))) | (((first | (refine hApp0 0 tab_ok tabs_ok rfl rfl rfl rfl rfl rfl rfl hH rfl rfl rfl ?_; refine ⟨?_, ?_, ?_⟩; (focus (first | omega | (simp; omega))); (focus (first | omega | (simp; omega))))); clear hH; intro W g c p q J hG hL hJ hH; (try simp only [putH, fls, List.append_nil] at hH hL); (try simp only [Act.put, pA, pB, pC]))) | ((first | (refine iL tab_ok rfl ?_ rfl hH ?_; (focus (first | exact wN rfl | exact rfl)); refine ⟨_, _, rfl, rfl, ?_⟩) | ((with_reducible refine callH hH ?_); refine ⟨?_, ?_, ?_⟩; rotate_left; (focus (first | (with_reducible exact fW0 _) | (exact fF.out _ hH.below))))); clear hH; (first | intro W g hH | intro W hH); ((try simp only [Act.put, pA, pB, pC]))))
        obtain ⟨Y, hY⟩ : ∃ Y, Y = [D] := ⟨_, rfl⟩
        have hYl : Y.length = 1 := by rw [hY]; rfl
        have hp : p = 1 := by have := hG.hp; simpa using this
        subst hp
        exact ⟨⟨1, by simp, by omega, .inr ⟨_, c, q, J, Y, Lib.hid (by rw [hsn.out, hY]; try rfl), Lib.hid hYl, by rw [hYl], by rw [hYl]; exact hG, hJ, by rw [hYl, hY]; exact hH.sub (SubH.keep (SubH.drop SubH.refl))⟩⟩, by simp [intOf]; try omega⟩
      · have hX8 : X.length ≤ 100 := by rw [hXj.out]; omega
        go_wp2_with (first | ((refine hSl tab_ok rfl ?_ rfl tabs_ok rfl rfl rfl rfl rfl hH ?_; (focus (first | exact wN rfl | exact rfl)); refine ⟨?_, ?_, ?_⟩; rotate_left; (focus (repeat (first | exact BR.nil | refine BR.one rfl rfl rfl ?_ | (refine BR.row rfl rfl rfl rfl ?_ ?_; (focus (repeat (first | exact trivial | assumption | exact OkA.z (by kernel_rfl) (by kernel_rfl) | refine ⟨rfl, ?_⟩ | refine ⟨?_, ?_⟩))))))); clear hH; intro W g hH; (try simp only [Act.put, pA, pB, pC]))) | (((first | (refine hApp 1 0 tab_ok tabs_ok rfl rfl rfl rfl rfl rfl rfl hH rfl rfl rfl rfl ?_; refine ⟨?_, ?_, ?_⟩; (focus assumption); (focus (first | omega | (simp; omega))))); clear hH; intro W g c p q J hG hL hJ hH; (try simp only [putH, fls, List.append_nil] at hH hL); (try simp only [Act.put, pA, pB, pC]))) | ((first | (refine iL tab_ok rfl ?_ rfl hH ?_; (focus (first | exact wN rfl | exact rfl)); refine ⟨_, _, rfl, rfl, ?_⟩) | ((with_reducible refine callH hH ?_); refine ⟨?_, ?_, ?_⟩; rotate_left; (focus (first | (with_reducible exact fW _) | (exact fF.out _ hH.below))))); clear hH; (first | intro W g hH | intro W hH); ((try simp only [Act.put, pA, pB, pC]))))
        obtain ⟨Y, hY⟩ : ∃ Y, Y = X ++ [D] := ⟨_, rfl⟩
        have hYl : Y.length = X.length + 1 := by rw [hY]; simp
        have hp : p = X.length + 1 := by have := hG.hp; simpa using this
        subst hp
        have eY : strsL Y = strsL X ++ [.string (str D)] := by rw [hY, strsL_snoc]
        exact ⟨⟨j + 1, by go_num, by omega, .inr ⟨_, c, q, J, Y, Lib.hid (by rw [hsn.out, hY, hX.out]), Lib.hid (by rw [hYl, hXj.out]), by rw [hYl], by rw [hYl]; exact hG, hJ, by rw [hYl, eY]; exact hH.sub (SubH.drop SubH.refl)⟩⟩, by simp [intOf]; omega⟩
    · obtain rfl : j = n := by omega
      have dj : decide (j < j) = false := decide_eq_false (by omega)
      rcases hor with ⟨rfl, rfl, hH⟩ | ⟨gl, c, q, J, X, hX, hXj, rfl, hG, oJ, hH⟩
      · have fJ := Lib.hid (fun W => hJoin0 (W := W) (sep := [58]))
        clear HJ HW HF
        have dj2 : decide ((f : Int) < (f : Int)) = false := decide_eq_false (by omega)
        go_wp2_with (first | ((first | ((with_reducible refine callH hH ?_); refine ⟨?_, ?_, ?_⟩; rotate_left; (focus (first | (exact fJ.out _))))); clear hH; (first | intro W g hH | intro W hH); ((try simp only [Act.put, pA, pB, pC]))))
        go_ret
        exact ⟨rfl, hH.below⟩
      · obtain ⟨j8, jl⟩ := HJ.out X hX.out
        have fJ := Lib.hid (fun W (hH : Hp w.heap.size w W [(gl, 9, true, [.many (strsL X) X.length, .many J q]), (g, 24, true, [.many A 17])]) => hJoin 0 hH rfl (by omega) hG.le jl)
        have HE := Lib.hid (show str (Lib.join X [58]) = str (Lib.join (wL h f j) [58]) by rw [hX.out])
        clear HJ HW HF hX hXj jl
        go_wp2_with (first | ((first | ((with_reducible refine callH hH ?_); refine ⟨?_, ?_, ?_⟩; rotate_left; (focus (first | (exact fJ.out _ hH))))); clear hH; (first | intro W g hH | intro W hH); ((try simp only [Act.put, pA, pB, pC]))))
        go_ret
        exact ⟨congrArg (fun x => Ending.returned (Value.string x)) HE.out, hH.below⟩
end
end
section
open Go.ChangeShapes Go.WideShapes Go.ChangeAt Go.RowKit
set_option linter.unusedVariables false
set_option linter.unusedSimpArgs false
set_option maxRecDepth 20000
attribute [local irreducible] wpList

theorem wL_zero (h : Nat → List UInt8) (n : Nat) : wL h 0 n = (List.range n).map h := by unfold wL; rw [List.range_eq_range']
section
variable {w : World} {a : Ad}
set_option maxHeartbeats 2000000 in
theorem text4 (hl : LaidW w) (hv : a.v = false) : Gives Tryz.prog 58 #[.agg (fls [.many (adL a) 17]).toArray] w (.string (str (Pr.grown [46] (h10 a) 4))) := by
  refine Gives.of ?_
  have oA := adL_ok a
  have zA := adL_0 a
  rw [hv] at zA
  have HC := Lib.hid (fun j (h : j < 16) => cell4 (a := a) h)
  have HF := Lib.hid (show ∀ W, Below w.heap.size w W → ∀ i, Gives Tryz.prog 29 #[.int .i64 (b4 a i : Int)] W (.string (str (h10 a i))) from fun W hb i => itoa_any (hl.below hb) (by have := b4_lt a i; omega))
  have HJ := Lib.hid (show ∀ L : List (List UInt8), L = wL (h10 a) 0 4 → L.length ≤ 8 ∧ (Lib.join L [46]).length ≤ 140737488355328 from fun L hL => by
    subst hL
    have := join_len [46] 65536 (by simp) (wL (h10 a) 0 4) (fun x hx => by
      unfold wL at hx
      obtain ⟨i, _, rfl⟩ := List.mem_map.1 hx
      have := h10_len a i; omega)
    rw [wL_len] at this ⊢
    omega)
  have HB := Lib.hid (b4_lt a)
  have HR := Lib.hid (show str (Pr.grown [46] (h10 a) 4) = str (Lib.join (wL (h10 a) 0 4) [46]) by rw [wL_zero, Pr.grown_join])
  clear hl hv
  generalize Pr.grown [46] (h10 a) 4 = res at *
  generalize h10 a = h at *
  generalize b4 a = bb at *
  generalize adL a = A at *
  have hal : Tryz.prog.arrayLen 22 = 16 := by kernel_rfl
  have hel : Tryz.prog.elem 22 = 5 := by kernel_rfl
  have hsl : ∀ W (g : Nat), (Instr.sliceAt 22 (.pointer (some ⟨g, 1, none⟩)) none (some (.int .i64 4)) none).run Tryz.prog W = .ok (.slice (some ⟨g, 1, none⟩) 4 16) W := fun W g => by
    rw [run_sliceAt_array_h W 22 ⟨g, 1, none⟩ (by rw [hal, hel]; exact Tryz.underlying22) .i64 4 (by omega) (by rw [hal]; omega), hal, hel]
    go_simp
  clear hal hel
  have hH := Hp.refl w
  go_enter Tryz.func58, Tryz.ntmps58
  go_wp2_with (first | (((first | (refine iLx tab_ok rfl ?_ rfl hH ?_; (focus (first | exact wN rfl | exact rfl)); refine ⟨_, rfl, rfl, ?_, ?_, ?_, ?_, ?_, ?_, ?_⟩; rotate_left 2; (focus assumption); (focus (first | rfl | (push_cast; omega) | omega | (simp; omega))); (focus (first | rfl | assumption)); (focus (repeat (first | exact trivial | assumption | exact OkA.z (by kernel_rfl) (by kernel_rfl) | refine ⟨rfl, ?_⟩ | refine ⟨?_, ?_⟩)))) | (refine iLx1 tab_ok rfl ?_ rfl hH ?_; (focus (first | exact wN rfl | exact rfl)); refine ⟨_, rfl, rfl, ?_, ?_, ?_, ?_, ?_⟩; rotate_left 2; (focus assumption); (focus (first | rfl | omega | (simp; omega))))); (clear hH; intro W hH); (try simp only [Act.put, pA, pB, pC]))) | ((first | (refine hBx rfl ?_ rfl hH ?_ ?_; (focus (first | exact wN rfl | exact rfl)); (focus (repeat (first | exact trivial | assumption | exact OkA.z (by kernel_rfl) (by kernel_rfl) | refine ⟨rfl, ?_⟩ | refine ⟨?_, ?_⟩))))); clear hH; (first | intro W g hH | intro W hH); ((try simp only [Act.put, pA, pB, pC]))))
  go_loopw [3, 14] (fun s i wr => ∃ (j : Nat), i = .int .i64 (j : Int) ∧ j ≤ 4 ∧ ((j = 0 ∧ s = .slice none 0 0 ∧ Hp w.heap.size w wr [(g, 24, true, [.many A 17])]) ∨ (∃ gl c q J X, Hid (X = wL h 0 j) ∧ Hid (X.length = j) ∧ s = .slice (some ⟨gl, 0, none⟩) X.length c ∧ Grow 1 X.length c X.length q ∧ OkA J q ∧ Hp w.heap.size w wr [(gl, 9, true, [.many (strsL X) X.length, .many J q]), (g, 24, true, [.many A 17])]))) (fun _ i _ => 4 - (intOf i).toNat)
  case atStart => exact ⟨0, rfl, by omega, .inl ⟨rfl, rfl, hH⟩⟩
  case round =>
    clear hH
    obtain ⟨j, rfl, hj, hor⟩ := hrel
    by_cases hjn : j < 4
    · have dj : decide (j < 4) = true := decide_eq_true hjn
      have cj := HC.out j (by omega)
      have fF := Lib.hid (fun W hb => HF.out W hb j)
      have hsn := Lib.hid (wL_snoc h 0 j)
      have bj := HB.out j
      rw [Nat.zero_add] at hsn
      generalize bb j = x at *
      generalize h j = D at *
      rcases hor with ⟨rfl, rfl, hH⟩ | ⟨gl, c, q, J, X, hX, hXj, rfl, hG, oJ, hH⟩
      · go_wp2_with (first | (((first | (refine iLx tab_ok rfl ?_ rfl hH ?_; (focus (first | exact wN rfl | exact rfl)); refine ⟨_, rfl, rfl, ?_, ?_, ?_, ?_, ?_, ?_, ?_⟩; rotate_left 2; (focus assumption); (focus (first | rfl | (push_cast; omega) | omega | (simp; omega))); (focus (first | rfl | assumption)); (focus (repeat (first | exact trivial | assumption | exact OkA.z (by kernel_rfl) (by kernel_rfl) | refine ⟨rfl, ?_⟩ | refine ⟨?_, ?_⟩)))) | (refine iLx1 tab_ok rfl ?_ rfl hH ?_; (focus (first | exact wN rfl | exact rfl)); refine ⟨_, rfl, rfl, ?_, ?_, ?_, ?_, ?_⟩; rotate_left 2; (focus assumption); (focus (first | rfl | omega | (simp; omega))))); (clear hH; intro W hH); (try simp only [Act.put, pA, pB, pC]))) | ((refine hSl tab_ok rfl ?_ rfl tabs_ok rfl rfl rfl rfl rfl hH ?_; (focus (first | exact wN rfl | exact rfl)); refine ⟨?_, ?_, ?_⟩; rotate_left; (focus (repeat (first | exact BR.nil | refine BR.one rfl rfl rfl ?_ | (refine BR.row rfl rfl rfl rfl ?_ ?_; (focus (repeat (first | exact trivial | assumption | exact OkA.z (by kernel_rfl) (by kernel_rfl) | refine ⟨rfl, ?_⟩ | refine ⟨?_, ?_⟩))))))); clear hH; intro W g hH; (try simp only [Act.put, pA, pB, pC]))) | (((first | (refine hApp0 0 tab_ok tabs_ok rfl rfl rfl rfl rfl rfl rfl hH rfl rfl rfl ?_; refine ⟨?_, ?_, ?_⟩; (focus (first | omega | (simp; omega))); (focus (first | omega | (simp; omega))))); clear hH; intro W g c p q J hG hL hJ hH; (try simp only [putH, fls, List.append_nil] at hH hL); (try simp only [Act.put, pA, pB, pC]))) | ((first | ((with_reducible refine callH hH ?_); refine ⟨?_, ?_, ?_⟩; rotate_left; (focus (first | (exact fF.out _ hH.below))))); clear hH; (first | intro W g hH | intro W hH); ((try simp only [Act.put, pA, pB, pC]))))
        obtain ⟨Y, hY⟩ : ∃ Y, Y = [D] := ⟨_, rfl⟩
        have hYl : Y.length = 1 := by rw [hY]; rfl
        have hp : p = 1 := by have := hG.hp; simpa using this
        subst hp
        exact ⟨⟨1, by simp, by omega, .inr ⟨_, c, q, J, Y, Lib.hid (by rw [hsn.out, hY]; try rfl), Lib.hid hYl, by rw [hYl], by rw [hYl]; exact hG, hJ, by rw [hYl, hY]; exact hH.sub (SubH.keep (SubH.drop SubH.refl))⟩⟩, by simp [intOf]; try omega⟩
      · have hX8 : X.length ≤ 100 := by rw [hXj.out]; omega
        go_wp2_with (first | ((refine gL rfl ?_; refine hLx1 1 tab_ok rfl ?_ rfl hH rfl rfl rfl ?_; (focus (first | exact wN rfl | exact rfl)); refine ⟨_, _, cj, rfl, ?_⟩; (clear hH; intro W hH); ((try simp only [Act.put, pA, pB, pC])))) | ((refine hSl tab_ok rfl ?_ rfl tabs_ok rfl rfl rfl rfl rfl hH ?_; (focus (first | exact wN rfl | exact rfl)); refine ⟨?_, ?_, ?_⟩; rotate_left; (focus (repeat (first | exact BR.nil | refine BR.one rfl rfl rfl ?_ | (refine BR.row rfl rfl rfl rfl ?_ ?_; (focus (repeat (first | exact trivial | assumption | exact OkA.z (by kernel_rfl) (by kernel_rfl) | refine ⟨rfl, ?_⟩ | refine ⟨?_, ?_⟩))))))); clear hH; intro W g hH; (try simp only [Act.put, pA, pB, pC]))) | (((first | (refine hApp 1 0 tab_ok tabs_ok rfl rfl rfl rfl rfl rfl rfl hH rfl rfl rfl rfl ?_; refine ⟨?_, ?_, ?_⟩; (focus assumption); (focus (first | omega | (simp; omega))))); clear hH; intro W g c p q J hG hL hJ hH; (try simp only [putH, fls, List.append_nil] at hH hL); (try simp only [Act.put, pA, pB, pC]))) | ((first | ((with_reducible refine callH hH ?_); refine ⟨?_, ?_, ?_⟩; rotate_left; (focus (first | (exact fF.out _ hH.below))))); clear hH; (first | intro W g hH | intro W hH); ((try simp only [Act.put, pA, pB, pC]))))
        obtain ⟨Y, hY⟩ : ∃ Y, Y = X ++ [D] := ⟨_, rfl⟩
        have hYl : Y.length = X.length + 1 := by rw [hY]; simp
        have hp : p = X.length + 1 := by have := hG.hp; simpa using this
        subst hp
        have eY : strsL Y = strsL X ++ [.string (str D)] := by rw [hY, strsL_snoc]
        exact ⟨⟨j + 1, by simp, by omega, .inr ⟨_, c, q, J, Y, Lib.hid (by rw [hsn.out, hY, hX.out]), Lib.hid (by rw [hYl, hXj.out]), by rw [hYl], by rw [hYl]; exact hG, hJ, by rw [hYl, eY]; exact hH.sub (SubH.drop SubH.refl)⟩⟩, by simp [intOf]; omega⟩
    · obtain rfl : j = 4 := by omega
      rcases hor with ⟨h0, _, _⟩ | ⟨gl, c, q, J, X, hX, hXj, rfl, hG, oJ, hH⟩
      · omega
      · obtain ⟨j8, jl⟩ := HJ.out X hX.out
        have fJ := Lib.hid (fun W (hH : Hp w.heap.size w W [(gl, 9, true, [.many (strsL X) X.length, .many J q]), (g, 24, true, [.many A 17])]) => hJoin 0 hH rfl (by omega) hG.le jl)
        have HE := Lib.hid (show str (Lib.join X [46]) = str res by rw [HR.out, hX.out])
        clear HJ HF hX hXj jl
        go_wp2_with (first | ((first | ((with_reducible refine callH hH ?_); refine ⟨?_, ?_, ?_⟩; rotate_left; (focus (first | (exact fJ.out _ hH))))); clear hH; (first | intro W g hH | intro W hH); ((try simp only [Act.put, pA, pB, pC]))))
        go_ret
        exact ⟨congrArg (fun x => Ending.returned (Value.string x)) HE.out, hH.below⟩
set_option maxHeartbeats 2000000 in
theorem text6 (hl : LaidW w) (hv : a.v = true) : Gives Tryz.prog 58 #[.agg (fls [.many (adL a) 17]).toArray] w (.string (str (Pr.addrR (h16 a) (zsA a)))) := by
  refine Gives.of ?_
  have oA := adL_ok a
  have zA := adL_0 a
  rw [hv] at zA
  have hlen : ∀ f n, n ≤ 8 → (Lib.join (wL (h16 a) f n) [58]).length ≤ 600000 := fun f n hn => by
    have := join_len [58] 65536 (by simp) (wL (h16 a) f n) (fun x hx => by
      unfold wL at hx
      obtain ⟨i, _, rfl⟩ := List.mem_map.1 hx
      exact h16_len a i)
    rw [wL_len] at this
    have := Nat.mul_le_mul_right (65536 + 1) hn
    omega
  have HROW := Lib.hid (fun w => row_any (a := a) (w := w))
  have hok := Pr.rowP_ok (zsA a) (zsA_len a) 9 0 (0, 1) (by simp) (by simp) (by simp)
  have hE : Pr.addrR (h16 a) (zsA a) = Pr.addrP (h16 a) (zsA a) := (Pr.word_eq (wdA a) (zsA a) (zsA_len a)).symm
  rw [hE]
  clear hE
  unfold Pr.addrP
  generalize Pr.rowP (zsA a) 9 0 (0, 1) = rr at *
  obtain ⟨o, m⟩ := rr
  simp only at hok HROW ⊢
  have hH := Hp.refl w
  by_cases hm : m < 2
  · rw [if_pos hm]
    have dm : decide (m < 2) = true := decide_eq_true hm
    have FL := Lib.hid (show ∀ W, Below w.heap.size w W → Gives Tryz.prog 83 #[.agg (fls [.many (adL a) 17]).toArray, .int .i64 0, .int .i64 8] W (.string (str (Lib.join ((List.range' 0 8).map (h16 a)) [58]))) from fun W hb => list_any (f := 0) (n := 8) (hl.below hb) (by omega))
    clear hl hv hlen
    generalize Lib.join ((List.range' 0 8).map (h16 a)) [58] = R at *
    generalize adL a = A at *
    go_enter Tryz.func58, Tryz.ntmps58
    go_wp2_with (first | (((first | (refine iLx tab_ok rfl ?_ rfl hH ?_; (focus (first | exact wN rfl | exact rfl)); refine ⟨_, rfl, rfl, ?_, ?_, ?_, ?_, ?_, ?_, ?_⟩; rotate_left 2; (focus assumption); (focus (first | rfl | (push_cast; omega) | omega | (simp; omega))); (focus (first | rfl | assumption)); (focus (repeat (first | exact trivial | assumption | exact OkA.z (by kernel_rfl) (by kernel_rfl) | refine ⟨rfl, ?_⟩ | refine ⟨?_, ?_⟩)))) | (refine iLx1 tab_ok rfl ?_ rfl hH ?_; (focus (first | exact wN rfl | exact rfl)); refine ⟨_, rfl, rfl, ?_, ?_, ?_, ?_, ?_⟩; rotate_left 2; (focus assumption); (focus (first | rfl | omega | (simp; omega))))); (clear hH; intro W hH); (try simp only [Act.put, pA, pB, pC]))) | ((first | (refine iL tab_ok rfl ?_ rfl hH ?_; (focus (first | exact wN rfl | exact rfl)); refine ⟨_, _, rfl, rfl, ?_⟩) | (refine hBx rfl ?_ rfl hH ?_ ?_; (focus (first | exact wN rfl | exact rfl)); (focus (repeat (first | exact trivial | assumption | exact OkA.z (by kernel_rfl) (by kernel_rfl) | refine ⟨rfl, ?_⟩ | refine ⟨?_, ?_⟩)))) | ((with_reducible refine callH hH ?_); refine ⟨?_, ?_, ?_⟩; rotate_left; (focus (first | (with_reducible exact HROW.out _) | (exact FL.out _ hH.below))))); clear hH; (first | intro W g hH | intro W hH); ((try simp only [Act.put, pA, pB, pC]))))
    go_ret
    exact ⟨rfl, hH.below⟩
  · rw [if_neg hm]
    have dm : decide (m < 2) = false := decide_eq_false hm
    have hom : o + m ≤ 8 := by omega
    have FL1 := Lib.hid (show ∀ W, Below w.heap.size w W → Gives Tryz.prog 83 #[.agg (fls [.many (adL a) 17]).toArray, .int .i64 0, .int .i64 (o : Int)] W (.string (str (Lib.join ((List.range' 0 o).map (h16 a)) [58]))) from fun W hb => by
      have := list_any (a := a) (f := 0) (n := o) (hl.below hb) (by omega)
      rw [Nat.zero_add] at this
      exact this)
    have FL2 := Lib.hid (show ∀ W, Below w.heap.size w W → Gives Tryz.prog 83 #[.agg (fls [.many (adL a) 17]).toArray, .int .i64 ((o : Int) + (m : Int)), .int .i64 8] W (.string (str (Lib.join ((List.range' (o + m) (8 - (o + m))).map (h16 a)) [58]))) from fun W hb => by
      have := list_any (a := a) (f := o + m) (n := 8 - (o + m)) (hl.below hb) (by omega)
      rw [show ((o + m + (8 - (o + m)) : Nat) : Int) = 8 by omega, show ((o + m : Nat) : Int) = (o : Int) + (m : Int) by omega] at this
      exact this)
    have l1 := hlen 0 o (by omega)
    have l2 := hlen (o + m) (8 - (o + m)) (by omega)
    unfold wL at l1 l2
    clear hl hv hlen
    generalize Lib.join ((List.range' 0 o).map (h16 a)) [58] = R1 at *
    generalize Lib.join ((List.range' (o + m) (8 - (o + m))).map (h16 a)) [58] = R2 at *
    generalize adL a = A at *
    have HE := Lib.hid (show str R1 ++ str [58, 58] ++ str R2 = str (R1 ++ [58, 58] ++ R2) by rw [str_append, str_append])
    go_enter Tryz.func58, Tryz.ntmps58
    go_wp2_with (first | (((first | (refine iLx tab_ok rfl ?_ rfl hH ?_; (focus (first | exact wN rfl | exact rfl)); refine ⟨_, rfl, rfl, ?_, ?_, ?_, ?_, ?_, ?_, ?_⟩; rotate_left 2; (focus assumption); (focus (first | rfl | (push_cast; omega) | omega | (simp; omega))); (focus (first | rfl | assumption)); (focus (repeat (first | exact trivial | assumption | exact OkA.z (by kernel_rfl) (by kernel_rfl) | refine ⟨rfl, ?_⟩ | refine ⟨?_, ?_⟩)))) | (refine iLx1 tab_ok rfl ?_ rfl hH ?_; (focus (first | exact wN rfl | exact rfl)); refine ⟨_, rfl, rfl, ?_, ?_, ?_, ?_, ?_⟩; rotate_left 2; (focus assumption); (focus (first | rfl | omega | (simp; omega))))); (clear hH; intro W hH); (try simp only [Act.put, pA, pB, pC]))) | ((first | (refine iL tab_ok rfl ?_ rfl hH ?_; (focus (first | exact wN rfl | exact rfl)); refine ⟨_, _, rfl, rfl, ?_⟩) | (refine hBx rfl ?_ rfl hH ?_ ?_; (focus (first | exact wN rfl | exact rfl)); (focus (repeat (first | exact trivial | assumption | exact OkA.z (by kernel_rfl) (by kernel_rfl) | refine ⟨rfl, ?_⟩ | refine ⟨?_, ?_⟩)))) | ((with_reducible refine callH hH ?_); refine ⟨?_, ?_, ?_⟩; rotate_left; (focus (first | (with_reducible exact HROW.out _))))); clear hH; (first | intro W g hH | intro W hH); ((try simp only [Act.put, pA, pB, pC]))))
    ((with_reducible refine regQ hH (by kernel_rfl) (by kernel_rfl) ?_); intro hne; (repeat (first | (go_big_quiet_want; (first | (refine qiL tab_ok rfl rfl ?_; refine ⟨_, _, rfl, rfl, ?_⟩)); (try simp only [Act.put, pA, pB, pC]); go_big_quiet_on) | go_big_quiet_step (((with_reducible apply callQ); first | (exact FL1.out _ (HW.hp _).below) | (exact FL2.out _ (HW.hp _).below))))); refine wpQuiet_nil ?_; clear hne hH; intro W hH)
    go_wp2_with (fail)
    go_ret
    exact ⟨congrArg (fun x => Ending.returned (Value.string x)) HE.out, hH.below⟩
theorem text_any (hl : LaidW w) : Gives Tryz.prog 58 #[.agg (fls [.many (adL a) 17]).toArray] w (.string (str (txtA a))) := by
  unfold txtA
  cases hv : a.v
  · exact text4 hl hv
  · exact text6 hl hv
theorem aPrint_any (hl : LaidW w) : Gives Tryz.prog 30 #[.agg (fls [.many (adL a) 17]).toArray] w (.string (str (txtA a))) := by
  refine Gives.of ?_
  have F := Lib.hid (fun W (hb : Below w.heap.size w W) => text_any (a := a) (hl.below hb))
  have oA := adL_ok a
  clear hl
  generalize txtA a = r at *
  generalize adL a = A at *
  have hH := Hp.refl w
  go_enter Tryz.func30, Tryz.ntmps30
  go_wp2_with (first | ((first | (refine iL tab_ok rfl ?_ rfl hH ?_; (focus (first | exact wN rfl | exact rfl)); refine ⟨_, _, rfl, rfl, ?_⟩) | (refine hBx rfl ?_ rfl hH ?_ ?_; (focus (first | exact wN rfl | exact rfl)); (focus (repeat (first | exact trivial | assumption | exact OkA.z (by kernel_rfl) (by kernel_rfl) | refine ⟨rfl, ?_⟩ | refine ⟨?_, ?_⟩)))) | ((with_reducible refine callH hH ?_); refine ⟨?_, ?_, ?_⟩; rotate_left; (focus (first | (exact F.out _ hH.below))))); clear hH; (first | intro W g hH | intro W hH); ((try simp only [Act.put, pA, pB, pC]))))
  go_ret
  exact ⟨rfl, hH.below⟩
end
end
section
open Go.ChangeShapes Go.WideShapes Go.ChangeAt Go.RowKit
set_option linter.unusedVariables false
set_option linter.unusedSimpArgs false
set_option maxRecDepth 20000
attribute [local irreducible] wpList

section
variable {w : World} {p : Option Addr} {c : Nat} {L : List Ad}
set_option maxHeartbeats 2000000 in
theorem sText (hl : LaidW w) (hm : L.length ≤ 1000) (h : AdsAt w p L) : Gives Tryz.prog 102 #[.slice p L.length c] w (.string (str (txtL L))) := by
  refine Gives.of ?_
  have HA := Lib.hid h
  clear h
  have hH := Hp.refl w
  unfold txtL
  by_cases h0 : L.length = 0
  · rw [if_pos h0, h0]
    clear HA h0 hl
    go_enter Tryz.func102, Tryz.ntmps102
    go_wp2_with (fail)
    go_ret
    exact ⟨rfl, hH.below⟩
  rw [if_neg h0]
  have d0 : ((L.length : Int) == 0) = false := by rw [beq_eq_false_iff_ne]; omega
  have HT := Lib.hid (show ∀ (j : Nat) (hj : j < L.length), (fun i => txtA (L.getD i Ad.z)) j = txtA L[j] from fun j hj => by simp only; rw [List.getD_eq_getElem?_getD, List.getElem?_eq_getElem hj]; rfl)
  have HJ := Lib.hid (show ∀ X : List (List UInt8), X = wL (fun i => txtA (L.getD i Ad.z)) 0 L.length → X.length ≤ 1000 ∧ (Lib.join X [44]).length ≤ 140737488355328 from fun X hX => by
    subst hX
    have := join_len [44] 600000 (by simp) (wL (fun i => txtA (L.getD i Ad.z)) 0 L.length) (fun x hx => by
      unfold wL at hx
      obtain ⟨i, _, rfl⟩ := List.mem_map.1 hx
      exact txtA_len _)
    rw [wL_len] at this ⊢
    omega)
  have HR := Lib.hid (show str (Pr.grown [44] (fun i => txtA (L.getD i Ad.z)) L.length) = str (Lib.join (wL (fun i => txtA (L.getD i Ad.z)) 0 L.length) [44]) by rw [wL_zero, Pr.grown_join])
  have HP := Lib.hid (show ∀ W, Below w.heap.size w W → ∀ a : Ad, Gives Tryz.prog 30 #[.agg (fls [.many (adL a) 17]).toArray] W (.string (str (txtA a))) from fun W hb a => aPrint_any (hl.below hb))
  clear hl
  generalize Pr.grown [44] (fun i => txtA (L.getD i Ad.z)) L.length = res at *
  generalize (fun i => txtA (L.getD i Ad.z)) = h at *
  have H0 := Lib.hid h0
  clear h0
  go_enter Tryz.func102, Tryz.ntmps102
  go_wp2_with (fail)
  go_loopw [3, 11] (fun s i wr => ∃ (j : Nat), i = .int .i64 (j : Int) ∧ j ≤ L.length ∧ ((j = 0 ∧ s = .slice none 0 0 ∧ Hp w.heap.size w wr []) ∨ (∃ gl c q J X, Hid (X = wL h 0 j) ∧ Hid (X.length = j) ∧ s = .slice (some ⟨gl, 0, none⟩) X.length c ∧ Grow 1 X.length c X.length q ∧ OkA J q ∧ Hp w.heap.size w wr [(gl, 9, true, [.many (strsL X) X.length, .many J q])]))) (fun _ i _ => L.length - (intOf i).toNat)
  case atStart => exact ⟨0, rfl, by omega, .inl ⟨rfl, rfl, hH⟩⟩
  case round =>
    clear hH
    obtain ⟨j, rfl, hj, hor⟩ := hrel
    by_cases hjn : j < L.length
    · obtain ⟨a, ha, fA, _⟩ := HA.out.get hjn
      subst ha
      have dj : decide (j < L.length) = true := decide_eq_true hjn
      have hsn := Lib.hid (wL_snoc h 0 j)
      rw [Nat.zero_add, HT.out j hjn] at hsn
      have oA := adL_ok L[j]
      have fP := Lib.hid (fun W hb => HP.out W hb L[j])
      have hjl : j < 1000 := by omega
      clear HT HJ HR HP
      generalize txtA L[j] = D at *
      generalize adL L[j] = Y at *
      have HL : L.length - (j + 1) < L.length - j := by omega
      rcases hor with ⟨rfl, rfl, hH⟩ | ⟨gl, c, q, J, X, hX, hXj, rfl, hG, oJ, hH⟩
      · go_wp2_with (first | ((refine gL rfl ?_; refine hLoR tab_ok rfl ?_ rfl hH rfl rfl ?_; (focus (first | exact wN rfl | exact rfl)); refine ⟨_, fA, ⟨oA, trivial⟩, rfl, ?_⟩; (clear hH; (first | intro W g hH | intro W hH); (try simp only [Act.put, pA, pB, pC])))) | ((refine hSl tab_ok rfl ?_ rfl tabs_ok rfl rfl rfl rfl rfl hH ?_; (focus (first | exact wN rfl | exact rfl)); refine ⟨?_, ?_, ?_⟩; rotate_left; (focus (repeat (first | exact BR.nil | refine BR.one rfl rfl rfl ?_ | (refine BR.row rfl rfl rfl rfl ?_ ?_; (focus (repeat (first | exact trivial | assumption | exact OkA.z (by kernel_rfl) (by kernel_rfl) | refine ⟨rfl, ?_⟩ | refine ⟨?_, ?_⟩))))))); clear hH; intro W g hH; (try simp only [Act.put, pA, pB, pC]))) | (((first | (refine hApp0 0 tab_ok tabs_ok rfl rfl rfl rfl rfl rfl rfl hH rfl rfl rfl ?_; refine ⟨?_, ?_, ?_⟩; (focus (first | omega | (simp; omega))); (focus (first | omega | (simp; omega))))); clear hH; intro W g c p q J hG hL hJ hH; (try simp only [putH, fls, List.append_nil] at hH hL); (try simp only [Act.put, pA, pB, pC]))) | ((first | (refine iL tab_ok rfl ?_ rfl hH ?_; (focus (first | exact wN rfl | exact rfl)); refine ⟨_, _, rfl, rfl, ?_⟩) | (refine iSR tab_ok rfl ?_ rfl hH ?_; (focus (first | exact wN rfl | exact rfl)); refine ⟨_, _, _, _, rfl, rfl, rfl, rfl, rfl, ?_, ?_⟩; (focus (repeat (first | exact trivial | assumption | exact OkA.z (by kernel_rfl) (by kernel_rfl) | refine ⟨rfl, ?_⟩ | refine ⟨?_, ?_⟩)))) | (refine hAl tab_ok rfl ?_ hH rfl ?_; (focus (first | exact wN rfl | exact rfl))) | ((with_reducible refine callH hH ?_); refine ⟨?_, ?_, ?_⟩; rotate_left; (focus (first | (exact fP.out _ hH.below))))); clear hH; (first | intro W g hH | intro W hH); ((try simp only [Act.put, pA, pB, pC]))))
        obtain ⟨Y2, hY⟩ : ∃ Y, Y = [D] := ⟨_, rfl⟩
        have hYl : Y2.length = 1 := by rw [hY]; rfl
        have hp : p = 1 := by have := hG.hp; simpa using this
        subst hp
        exact ⟨⟨1, by simp, by omega, .inr ⟨_, c, q, J, Y2, Lib.hid (by rw [hsn.out, hY]; try rfl), Lib.hid hYl, by rw [hYl], by rw [hYl]; exact hG, hJ, by rw [hYl, hY]; exact hH.sub (SubH.keep SubH.nil)⟩⟩, by simp [intOf]; try omega⟩
      · have hX8 : X.length ≤ 1000 := by rw [hXj.out]; omega
        go_wp2_with (first | ((refine gL rfl ?_; refine hLoR tab_ok rfl ?_ rfl hH rfl rfl ?_; (focus (first | exact wN rfl | exact rfl)); refine ⟨_, fA, ⟨oA, trivial⟩, rfl, ?_⟩; (clear hH; (first | intro W g hH | intro W hH); (try simp only [Act.put, pA, pB, pC])))) | ((refine hSl tab_ok rfl ?_ rfl tabs_ok rfl rfl rfl rfl rfl hH ?_; (focus (first | exact wN rfl | exact rfl)); refine ⟨?_, ?_, ?_⟩; rotate_left; (focus (repeat (first | exact BR.nil | refine BR.one rfl rfl rfl ?_ | (refine BR.row rfl rfl rfl rfl ?_ ?_; (focus (repeat (first | exact trivial | assumption | exact OkA.z (by kernel_rfl) (by kernel_rfl) | refine ⟨rfl, ?_⟩ | refine ⟨?_, ?_⟩))))))); clear hH; intro W g hH; (try simp only [Act.put, pA, pB, pC]))) | (((first | (refine hApp 2 0 tab_ok tabs_ok rfl rfl rfl rfl rfl rfl rfl hH rfl rfl rfl rfl ?_; refine ⟨?_, ?_, ?_⟩; (focus assumption); (focus (first | omega | (simp; omega))))); clear hH; intro W g c p q J hG hL hJ hH; (try simp only [putH, fls, List.append_nil] at hH hL); (try simp only [Act.put, pA, pB, pC]))) | ((first | (refine iL tab_ok rfl ?_ rfl hH ?_; (focus (first | exact wN rfl | exact rfl)); refine ⟨_, _, rfl, rfl, ?_⟩) | (refine iSR tab_ok rfl ?_ rfl hH ?_; (focus (first | exact wN rfl | exact rfl)); refine ⟨_, _, _, _, rfl, rfl, rfl, rfl, rfl, ?_, ?_⟩; (focus (repeat (first | exact trivial | assumption | exact OkA.z (by kernel_rfl) (by kernel_rfl) | refine ⟨rfl, ?_⟩ | refine ⟨?_, ?_⟩)))) | (refine hAl tab_ok rfl ?_ hH rfl ?_; (focus (first | exact wN rfl | exact rfl))) | ((with_reducible refine callH hH ?_); refine ⟨?_, ?_, ?_⟩; rotate_left; (focus (first | (exact fP.out _ hH.below))))); clear hH; (first | intro W g hH | intro W hH); ((try simp only [Act.put, pA, pB, pC]))))
        obtain ⟨Y2, hY⟩ : ∃ Y, Y = X ++ [D] := ⟨_, rfl⟩
        have hYl : Y2.length = X.length + 1 := by rw [hY]; simp
        have hp : p = X.length + 1 := by have := hG.hp; simpa using this
        subst hp
        have eY : strsL Y2 = strsL X ++ [.string (str D)] := by rw [hY, strsL_snoc]
        exact ⟨⟨j + 1, by simp, by omega, .inr ⟨_, c, q, J, Y2, Lib.hid (by rw [hsn.out, hY, hX.out]), Lib.hid (by rw [hYl, hXj.out]), by rw [hYl], by rw [hYl]; exact hG, hJ, by rw [hYl, eY]; exact hH.sub (SubH.drop (SubH.drop SubH.refl))⟩⟩, by simp [intOf]; omega⟩
    · obtain rfl : j = L.length := by omega
      rcases hor with ⟨h0, _, _⟩ | ⟨gl, c, q, J, X, hX, hXj, rfl, hG, oJ, hH⟩
      · exact absurd h0 H0.out
      · obtain ⟨j8, jl⟩ := HJ.out X hX.out
        have fJ := Lib.hid (fun W (hH : Hp w.heap.size w W [(gl, 9, true, [.many (strsL X) X.length, .many J q])]) => hJoin 0 hH rfl (by omega) hG.le jl)
        have HE := Lib.hid (show str (Lib.join X [44]) = str res by rw [HR.out, hX.out])
        have dj : decide (L.length < L.length) = false := decide_eq_false hjn
        clear HJ hX hXj jl HT HP HR HA
        go_wp2_with (first | ((first | ((with_reducible refine callH hH ?_); refine ⟨?_, ?_, ?_⟩; rotate_left; (focus (first | (exact fJ.out _ hH))))); clear hH; (first | intro W g hH | intro W hH); ((try simp only [Act.put, pA, pB, pC]))))
        go_ret
        exact ⟨congrArg (fun x => Ending.returned (Value.string x)) HE.out, hH.below⟩
theorem sPrint (hl : LaidW w) (hm : L.length ≤ 1000) (h : AdsAt w p L) : Gives Tryz.prog 84 #[.slice p L.length c] w (.string (str (txtL L))) := by
  refine Gives.of ?_
  have F := Lib.hid (fun W (hb : Below w.heap.size w W) => sText (c := c) (hl.below hb) hm (h.below hb))
  clear hl h
  generalize txtL L = r at *
  generalize L.length = n at *
  have hH := Hp.refl w
  go_enter Tryz.func84, Tryz.ntmps84
  go_wp2_with (first | ((first | ((with_reducible refine callH hH ?_); refine ⟨?_, ?_, ?_⟩; rotate_left; (focus (first | (exact F.out _ hH.below))))); clear hH; (first | intro W g hH | intro W hH); ((try simp only [Act.put, pA, pB, pC]))))
  go_ret
  exact ⟨rfl, hH.below⟩
theorem mText {ex : Bool} (hl : LaidW w) (hm : L.length ≤ 1000) (h : AdsAt w p L) : Gives Tryz.prog 59 #[.agg (fls (flS ex p L.length c)).toArray] w (.string (str (txtF ex L))) := by
  refine Gives.of ?_
  have hH := Hp.refl w
  have F := Lib.hid (fun W (hb : Below w.heap.size w W) => sPrint (c := c) (hl.below hb) hm (h.below hb))
  have hlen := txtL_len L hm
  clear hl h
  unfold flS txtF
  generalize txtL L = T at *
  generalize L.length = n at *
  cases ex
  · have e := Lib.hid (show str [105, 110, 32] ++ str T = str ([105, 110, 32] ++ T) by rw [str_append])
    go_enter Tryz.func59, Tryz.ntmps59
    go_wp2_with (first | ((first | (refine iL tab_ok rfl ?_ rfl hH ?_; (focus (first | exact wN rfl | exact rfl)); refine ⟨_, _, rfl, rfl, ?_⟩) | (refine hBx rfl ?_ rfl hH ?_ ?_; (focus (first | exact wN rfl | exact rfl)); (focus (repeat (first | exact trivial | assumption | exact OkA.z (by kernel_rfl) (by kernel_rfl) | refine ⟨rfl, ?_⟩ | refine ⟨?_, ?_⟩)))) | ((with_reducible refine callH hH ?_); refine ⟨?_, ?_, ?_⟩; rotate_left; (focus (first | (exact F.out _ hH.below))))); clear hH; (first | intro W g hH | intro W hH); ((try simp only [Act.put, pA, pB, pC]))))
    go_ret
    exact ⟨congrArg (fun x => Ending.returned (Value.string x)) e.out, hH.below⟩
  · have e := Lib.hid (show str [101, 120, 32] ++ str T = str ([101, 120, 32] ++ T) by rw [str_append])
    go_enter Tryz.func59, Tryz.ntmps59
    go_wp2_with (first | ((first | (refine iL tab_ok rfl ?_ rfl hH ?_; (focus (first | exact wN rfl | exact rfl)); refine ⟨_, _, rfl, rfl, ?_⟩) | (refine hBx rfl ?_ rfl hH ?_ ?_; (focus (first | exact wN rfl | exact rfl)); (focus (repeat (first | exact trivial | assumption | exact OkA.z (by kernel_rfl) (by kernel_rfl) | refine ⟨rfl, ?_⟩ | refine ⟨?_, ?_⟩)))) | ((with_reducible refine callH hH ?_); refine ⟨?_, ?_, ?_⟩; rotate_left; (focus (first | (exact F.out _ hH.below))))); clear hH; (first | intro W g hH | intro W hH); ((try simp only [Act.put, pA, pB, pC]))))
    go_ret
    exact ⟨congrArg (fun x => Ending.returned (Value.string x)) e.out, hH.below⟩
theorem mPrint {ex : Bool} (hl : LaidW w) (hm : L.length ≤ 1000) (h : AdsAt w p L) : Gives Tryz.prog 31 #[.agg (fls (flS ex p L.length c)).toArray] w (.string (str (txtF ex L))) := by
  refine Gives.of ?_
  have hH := Hp.refl w
  have F := Lib.hid (fun W (hb : Below w.heap.size w W) => mText (c := c) (ex := ex) (hl.below hb) hm (h.below hb))
  clear hl h
  unfold flS at *
  generalize txtF ex L = T at *
  generalize L.length = n at *
  go_enter Tryz.func31, Tryz.ntmps31
  go_wp2_with (first | ((first | (refine iL tab_ok rfl ?_ rfl hH ?_; (focus (first | exact wN rfl | exact rfl)); refine ⟨_, _, rfl, rfl, ?_⟩) | (refine hBx rfl ?_ rfl hH ?_ ?_; (focus (first | exact wN rfl | exact rfl)); (focus (repeat (first | exact trivial | assumption | exact OkA.z (by kernel_rfl) (by kernel_rfl) | refine ⟨rfl, ?_⟩ | refine ⟨?_, ?_⟩)))) | ((with_reducible refine callH hH ?_); refine ⟨?_, ?_, ?_⟩; rotate_left; (focus (first | (exact F.out _ hH.below))))); clear hH; (first | intro W g hH | intro W hH); ((try simp only [Act.put, pA, pB, pC]))))
  go_ret
  exact ⟨rfl, hH.below⟩
def txtE (e : En) : List UInt8 := Pr.digs 10 e.vlan.toNat ++ [32] ++ txtA e.grp ++ [32] ++ txtF e.ex e.src
theorem txtF_len (ex : Bool) (L : List Ad) (h : L.length ≤ 1000) : (txtF ex L).length ≤ 600001003 := by
  have := txtL_len L h
  unfold txtF
  cases ex <;> simp only [List.length_append, List.length_cons, List.length_nil, if_true, Bool.false_eq_true, if_false] <;> omega
theorem dPrint {e : En} (hl : LaidW w) (hm : e.src.length ≤ 1000) (h0 : 0 ≤ e.vlan) (h1 : e.vlan ≤ 65535) (h : AdsAt w p e.src) : Gives Tryz.prog 12 #[.agg (fls (enS e p c)).toArray] w (.string (str (txtE e))) := by
  refine Gives.of ?_
  have hH := Hp.refl w
  obtain ⟨v, G, ex, L⟩ := e
  simp only at hm h0 h1 h
  obtain ⟨k, rfl⟩ : ∃ k : Nat, v = k := ⟨v.toNat, by omega⟩
  have oG := adL_ok G
  have FM := Lib.hid (fun W (hb : Below w.heap.size w W) => mPrint (c := c) (ex := ex) (hl.below hb) hm (h.below hb))
  have FA := Lib.hid (fun W (hb : Below w.heap.size w W) => aPrint_any (a := G) (hl.below hb))
  have FI := Lib.hid (fun W (hb : Below w.heap.size w W) => itoa_any (n := k) (hl.below hb) (by omega))
  have l1 := txtF_len ex L hm
  have l2 := txtA_len G
  have l3 := Pr.digs_len 10 (by omega) k
  clear hl h
  unfold txtE
  simp only [Int.toNat_natCast]
  unfold enS flS at *
  generalize txtF ex L = R3 at *
  generalize txtA G = R2 at *
  generalize Pr.digs 10 k = R1 at *
  generalize adL G = Y at *
  generalize L.length = n at *
  have l4 : R1.length ≤ 65536 := by omega
  clear l3
  have HE := Lib.hid (show str R1 ++ str [32] ++ str R2 ++ str [32] ++ str R3 = str (R1 ++ [32] ++ R2 ++ [32] ++ R3) by rw [str_append, str_append, str_append, str_append])
  go_enter Tryz.func12, Tryz.ntmps12
  go_wp2_with (first | ((first | (refine hBx rfl ?_ rfl hH ?_ ?_; (focus (first | exact wN rfl | exact rfl)); (focus (repeat (first | exact trivial | assumption | exact OkA.z (by kernel_rfl) (by kernel_rfl) | refine ⟨rfl, ?_⟩ | refine ⟨?_, ?_⟩))))); clear hH; (first | intro W g hH | intro W hH); ((try simp only [Act.put, pA, pB, pC]))))
  ((with_reducible refine regQ hH (by kernel_rfl) (by kernel_rfl) ?_); intro hne; (repeat (first | (go_big_quiet_want; (first | (refine qiL tab_ok rfl rfl ?_; refine ⟨_, _, rfl, rfl, ?_⟩)); (try simp only [Act.put, pA, pB, pC]); go_big_quiet_on) | go_big_quiet_step (((with_reducible apply callQ); first | (exact FI.out _ (HW.hp _).below) | (exact FA.out _ (HW.hp _).below) | (exact FM.out _ (HW.hp _).below))))); refine wpQuiet_nil ?_; clear hne hH; intro W hH)
  go_wp2_with (fail)
  go_ret
  exact ⟨congrArg (fun x => Ending.returned (Value.string x)) HE.out, hH.below⟩
end
end
end Go.Proofs.YtjegjgdihpihoaaGreatDoor
