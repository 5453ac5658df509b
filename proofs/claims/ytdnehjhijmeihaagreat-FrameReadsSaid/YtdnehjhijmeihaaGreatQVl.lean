/-
  Joined texts: Vl.
-/
import Derived.Test.YtdnehjhijmeihaaGreatQVj
import Derived.Test.YtdnehjhijmeihaaGreatQVi
import Derived.Test.YtdnehjhijmeihaaGreatQSl
namespace Go.Proofs.YtdnehjhijmeihaaGreat.V
-- %in
open Go.ChangeShapes Go.WideShapes Go.ChangeAt Go.RowKit
set_option linter.unusedVariables false
set_option linter.unusedSimpArgs false
set_option maxRecDepth 20000
attribute [local irreducible] wpList

noncomputable def rOneF (s : ByteArray) : Tk × Int :=
  if s.size < 24 then (⟨true, 1, (numAt s 0 1 : Int) - 129, 0, Ad.z, false, 0, 0, [], []⟩, 3)
  else if numAt s 0 1 = 130 ∧ 24 < s.size ∧ s.size < 28 then (⟨true, 1, 1, 0, Ad.z, false, 0, 0, [], []⟩, 2)
  else if (grp6 (ad16 s 8) || (numAt s 0 1 == 130 && zero6 (ad16 s 8))) = false then (⟨true, 1, (numAt s 0 1 : Int) - 129, 0, ad16 s 8, false, 0, 0, [], []⟩, 2)
  else if numAt s 0 1 ≠ 130 then (⟨true, 1, (numAt s 0 1 : Int) - 129, 0, ad16 s 8, false, 0, 0, [], []⟩, 0)
  else if s.size = 24 then (⟨true, 1, 1, (numAt s 4 2 : Int), ad16 s 8, false, 0, 0, [], []⟩, 0)
  else if zero6 (ad16 s 8) = true ∧ 0 < numAt s 26 2 then (⟨true, 2, 1, (valN 4096 (numAt s 4 2) : Int), ad16 s 8, decide (numAt s 24 1 / 8 % 2 = 1), ((numAt s 24 1 % 8 : Nat) : Int), (valN 16 (numAt s 25 1) : Int), [], []⟩, 2)
  else (⟨true, 2, 1, (valN 4096 (numAt s 4 2) : Int), ad16 s 8, decide (numAt s 24 1 / 8 % 2 = 1), ((numAt s 24 1 % 8 : Nat) : Int), (valN 16 (numAt s 25 1) : Int), (rSrcF s 28 (numAt s 26 2)).1, []⟩, (rSrcF s 28 (numAt s 26 2)).2)
theorem q8 (b : Nat) : decide (b / 8 % 2 = 1) = (((b : Int) / 8 % 2) == 1) := by
  rw [Bool.eq_iff_iff]
  simp
  omega
theorem m8 (b : Nat) : ((b % 8 : Nat) : Int) = (b : Int) % 8 := by omega
section
variable {w : World} {s : ByteArray}
set_option maxHeartbeats 8000000 in
theorem rone_short (h8 : 8 ≤ s.size) (h24 : s.size < 24) (hs : s.size ≤ 100000) (hk : numAt s 0 1 = 130 ∨ numAt s 0 1 = 131 ∨ numAt s 0 1 = 132) : Calls Tryz.prog 63 #[.string s] w fun e w' => RdPost w (rOneF s).1 (rOneF s).2 e w' := by
  have hH := Hp.refl w
  have oZ := zadr_ok
  have d1 : decide ((s.size : Int) < 24) = true := decide_eq_true (by omega)
  rcases hk with hk | hk | hk
  · have i0 : ∀ W, (Instr.index 9 (.string s) (.int .i64 0)).run Tryz.prog W = .ok (.int .u8 130) W := fun W => by
      have := run_at (s := s) (k := 0) (by omega) 0 rfl W
      rw [hk] at this
      exact this
    have e : rOneF s = (⟨true, 1, 1, 0, Ad.z, false, 0, 0, [], []⟩, 3) := by unfold rOneF; rw [if_pos h24, hk]; rfl
    rw [e]
    clear e hk h24 h8
    go_enter Tryz.func63, Tryz.ntmps63
    go_wp2_with (first | (refine st ?_; clear hH; (first | intro W g hH | intro W hH)))
    (refine iRet2 Tryz.results63 tab_ok rfl rfl hH ?_; refine ⟨_, _, rfl, rfl, rfl, ?_⟩)
    exact RdPost.mk (sp := none) (rp := none) (sc := 0) (rc := 0) (D := []) (by unfold tkS; simp only; rw [adL_z]; rfl) ⟨hH.nil, by simp⟩ (fun B w0 W h => ⟨AdsAt.nil, RcsAt.nil⟩)
  · have i0 : ∀ W, (Instr.index 9 (.string s) (.int .i64 0)).run Tryz.prog W = .ok (.int .u8 131) W := fun W => by
      have := run_at (s := s) (k := 0) (by omega) 0 rfl W
      rw [hk] at this
      exact this
    have e : rOneF s = (⟨true, 1, 2, 0, Ad.z, false, 0, 0, [], []⟩, 3) := by unfold rOneF; rw [if_pos h24, hk]; rfl
    rw [e]
    clear e hk h24 h8
    go_enter Tryz.func63, Tryz.ntmps63
    go_wp2_with (first | (refine st ?_; clear hH; (first | intro W g hH | intro W hH)))
    (refine iRet2 Tryz.results63 tab_ok rfl rfl hH ?_; refine ⟨_, _, rfl, rfl, rfl, ?_⟩)
    exact RdPost.mk (sp := none) (rp := none) (sc := 0) (rc := 0) (D := []) (by unfold tkS; simp only; rw [adL_z]; rfl) ⟨hH.nil, by simp⟩ (fun B w0 W h => ⟨AdsAt.nil, RcsAt.nil⟩)
  · have i0 : ∀ W, (Instr.index 9 (.string s) (.int .i64 0)).run Tryz.prog W = .ok (.int .u8 132) W := fun W => by
      have := run_at (s := s) (k := 0) (by omega) 0 rfl W
      rw [hk] at this
      exact this
    have e : rOneF s = (⟨true, 1, 3, 0, Ad.z, false, 0, 0, [], []⟩, 3) := by unfold rOneF; rw [if_pos h24, hk]; rfl
    rw [e]
    clear e hk h24 h8
    go_enter Tryz.func63, Tryz.ntmps63
    go_wp2_with (first | (refine st ?_; clear hH; (first | intro W g hH | intro W hH)))
    (refine iRet2 Tryz.results63 tab_ok rfl rfl hH ?_; refine ⟨_, _, rfl, rfl, rfl, ?_⟩)
    exact RdPost.mk (sp := none) (rp := none) (sc := 0) (rc := 0) (D := []) (by unfold tkS; simp only; rw [adL_z]; rfl) ⟨hH.nil, by simp⟩ (fun B w0 W h => ⟨AdsAt.nil, RcsAt.nil⟩)
set_option maxHeartbeats 8000000 in
theorem rone_odd (h24 : 24 < s.size) (h28 : s.size < 28) (hs : s.size ≤ 100000) (hk : numAt s 0 1 = 130) : Calls Tryz.prog 63 #[.string s] w fun e w' => RdPost w (rOneF s).1 (rOneF s).2 e w' := by
  have hH := Hp.refl w
  have oZ := zadr_ok
  have d1 : decide ((s.size : Int) < 24) = false := decide_eq_false (by omega)
  have d2 : decide (24 < (s.size : Int)) = true := decide_eq_true (by omega)
  have d3 : decide ((s.size : Int) < 28) = true := decide_eq_true (by omega)
  have i0 : ∀ W, (Instr.index 9 (.string s) (.int .i64 0)).run Tryz.prog W = .ok (.int .u8 130) W := fun W => by
    have := run_at (s := s) (k := 0) (by omega) 0 rfl W
    rw [hk] at this
    exact this
  have e : rOneF s = (⟨true, 1, 1, 0, Ad.z, false, 0, 0, [], []⟩, 2) := by unfold rOneF; rw [if_neg (by omega), if_pos ⟨hk, h24, h28⟩]
  rw [e]
  clear e hk
  go_enter Tryz.func63, Tryz.ntmps63
  go_wp2_with (first | (refine st ?_; clear hH; (first | intro W g hH | intro W hH)))
  (refine iRet2 Tryz.results63 tab_ok rfl rfl hH ?_; refine ⟨_, _, rfl, rfl, rfl, ?_⟩)
  exact RdPost.mk (sp := none) (rp := none) (sc := 0) (rc := 0) (D := []) (by unfold tkS; simp only; rw [adL_z]; rfl) ⟨hH.nil, by simp⟩ (fun B w0 W h => ⟨AdsAt.nil, RcsAt.nil⟩)
set_option maxHeartbeats 8000000 in
theorem rone_k (h24 : 24 ≤ s.size) (hs : s.size ≤ 100000) (hk : numAt s 0 1 = 131 ∨ numAt s 0 1 = 132) : Calls Tryz.prog 63 #[.string s] w fun e w' => RdPost w (rOneF s).1 (rOneF s).2 e w' := by
  have hH := Hp.refl w
  have oZ := zadr_ok
  have d1 : decide ((s.size : Int) < 24) = false := decide_eq_false (by omega)
  have f4 : ∀ w, Gives Tryz.prog 113 #[.string s, .int .i64 8] w (.agg (fls [.many (adL (ad16 s 8)) 17]).toArray) := fun w => rsixteen_any (k := 8) (by omega) (by omega)
  have f7 : ∀ w, Gives Tryz.prog 114 #[.agg (fls [.many (adL (ad16 s 8)) 17]).toArray] w (.bool (grp6 (ad16 s 8))) := fun w => rGroup6_any
  have f5 : ∀ w, Gives Tryz.prog 115 #[.agg (fls [.many (adL (ad16 s 8)) 17]).toArray] w (.bool (zero6 (ad16 s 8))) := fun w => rzero6_any
  have oA := adL_ok (ad16 s 8)
  rcases hk with hk | hk
  · have i0 : ∀ W, (Instr.index 9 (.string s) (.int .i64 0)).run Tryz.prog W = .ok (.int .u8 131) W := fun W => by
      have := run_at (s := s) (k := 0) (by omega) 0 rfl W
      rw [hk] at this
      exact this
    have e : rOneF s = (⟨true, 1, 2, 0, ad16 s 8, false, 0, 0, [], []⟩, if grp6 (ad16 s 8) then 0 else 2) := by
      unfold rOneF
      rw [if_neg (by omega), if_neg (by omega), hk]
      cases grp6 (ad16 s 8) <;> rfl
    rw [e]
    clear e hk
    generalize ad16 s 8 = a at *
    obtain ⟨A, hA'⟩ : ∃ Y, Y = adL a := ⟨_, rfl⟩
    rw [← hA'] at f4 f7 f5 oA
    have HA' := Lib.hid hA'
    clear hA'
    generalize zero6 a = zq at *
    generalize grp6 a = gb at *
    cases gb
    all_goals
      go_enter Tryz.func63, Tryz.ntmps63
      go_wp2_with (first | (refine st ?_; clear hH; (first | intro W g hH | intro W hH)))
      (refine iRet2 Tryz.results63 tab_ok rfl rfl hH ?_; refine ⟨_, _, rfl, rfl, rfl, ?_⟩)
      exact RdPost.mk (sp := none) (rp := none) (sc := 0) (rc := 0) (D := []) (by unfold tkS; simp only; rw [← HA'.out]; rfl) ⟨hH.nil, by simp⟩ (fun B w0 W h => ⟨AdsAt.nil, RcsAt.nil⟩)
  · have i0 : ∀ W, (Instr.index 9 (.string s) (.int .i64 0)).run Tryz.prog W = .ok (.int .u8 132) W := fun W => by
      have := run_at (s := s) (k := 0) (by omega) 0 rfl W
      rw [hk] at this
      exact this
    have e : rOneF s = (⟨true, 1, 3, 0, ad16 s 8, false, 0, 0, [], []⟩, if grp6 (ad16 s 8) then 0 else 2) := by
      unfold rOneF
      rw [if_neg (by omega), if_neg (by omega), hk]
      cases grp6 (ad16 s 8) <;> rfl
    rw [e]
    clear e hk
    generalize ad16 s 8 = a at *
    obtain ⟨A, hA'⟩ : ∃ Y, Y = adL a := ⟨_, rfl⟩
    rw [← hA'] at f4 f7 f5 oA
    have HA' := Lib.hid hA'
    clear hA'
    generalize zero6 a = zq at *
    generalize grp6 a = gb at *
    cases gb
    all_goals
      go_enter Tryz.func63, Tryz.ntmps63
      go_wp2_with (first | (refine st ?_; clear hH; (first | intro W g hH | intro W hH)))
      (refine iRet2 Tryz.results63 tab_ok rfl rfl hH ?_; refine ⟨_, _, rfl, rfl, rfl, ?_⟩)
      exact RdPost.mk (sp := none) (rp := none) (sc := 0) (rc := 0) (D := []) (by unfold tkS; simp only; rw [← HA'.out]; rfl) ⟨hH.nil, by simp⟩ (fun B w0 W h => ⟨AdsAt.nil, RcsAt.nil⟩)
set_option maxHeartbeats 8000000 in
theorem rone_24 (h24 : s.size = 24) (hs : s.size ≤ 100000) (hk : numAt s 0 1 = 130) : Calls Tryz.prog 63 #[.string s] w fun e w' => RdPost w (rOneF s).1 (rOneF s).2 e w' := by
  have hH := Hp.refl w
  have oZ := zadr_ok
  have d1 : decide ((s.size : Int) < 24) = false := decide_eq_false (by omega)
  have f4 : ∀ w, Gives Tryz.prog 113 #[.string s, .int .i64 8] w (.agg (fls [.many (adL (ad16 s 8)) 17]).toArray) := fun w => rsixteen_any (k := 8) (by omega) (by omega)
  have f7 : ∀ w, Gives Tryz.prog 114 #[.agg (fls [.many (adL (ad16 s 8)) 17]).toArray] w (.bool (grp6 (ad16 s 8))) := fun w => rGroup6_any
  have f5 : ∀ w, Gives Tryz.prog 115 #[.agg (fls [.many (adL (ad16 s 8)) 17]).toArray] w (.bool (zero6 (ad16 s 8))) := fun w => rzero6_any
  have oA := adL_ok (ad16 s 8)
  have d2 : decide (24 < (s.size : Int)) = false := decide_eq_false (by omega)
  have hr : numAt s 4 2 < 65536 := numAt_lt s 4 2
  have n4 : ∀ w, Gives Tryz.prog 22 #[.string (s.extract 4 6)] w (.int .u64 (numAt s 4 2 : Int)) := fun w => rNumAt8 (i := 4) (j := 6) (by omega) (by omega)
  have z6 : decide ((6 : Int) ≤ (s.size : Int)) = true := decide_eq_true (by omega)
  have i0 : ∀ W, (Instr.index 9 (.string s) (.int .i64 0)).run Tryz.prog W = .ok (.int .u8 130) W := fun W => by
    have := run_at (s := s) (k := 0) (by omega) 0 rfl W
    rw [hk] at this
    exact this
  have dz : ((s.size : Int) == 24) = true := by simp; omega
  have e : rOneF s = if (grp6 (ad16 s 8) || zero6 (ad16 s 8)) = false then (⟨true, 1, 1, 0, ad16 s 8, false, 0, 0, [], []⟩, 2) else (⟨true, 1, 1, (numAt s 4 2 : Int), ad16 s 8, false, 0, 0, [], []⟩, 0) := by
    unfold rOneF
    rw [if_neg (by omega), if_neg (by omega), hk]
    simp only [beq_self_eq_true, Bool.true_and]
    split
    · rfl
    · simp [h24]
  rw [e]
  clear e hk
  generalize ad16 s 8 = a at *
  obtain ⟨A, hA'⟩ : ∃ Y, Y = adL a := ⟨_, rfl⟩
  rw [← hA'] at f4 f7 f5 oA
  have HA' := Lib.hid hA'
  clear hA'
  generalize zero6 a = zq at *
  generalize grp6 a = gb at *
  generalize numAt s 4 2 = r at *
  cases gb <;> cases zq
  all_goals
    go_enter Tryz.func63, Tryz.ntmps63
    go_wp2_with (first | (refine st ?_; clear hH; (first | intro W g hH | intro W hH)))
    (refine iRet2 Tryz.results63 tab_ok rfl rfl hH ?_; refine ⟨_, _, rfl, rfl, rfl, ?_⟩)
    exact RdPost.mk (sp := none) (rp := none) (sc := 0) (rc := 0) (D := []) (by unfold tkS; simp only; rw [← HA'.out]; rfl) ⟨hH.nil, by simp⟩ (fun B w0 W h => ⟨AdsAt.nil, RcsAt.nil⟩)
set_option maxHeartbeats 8000000 in
theorem rone_l (h28 : 28 ≤ s.size) (hs : s.size ≤ 100000) (hk : numAt s 0 1 = 130) : Calls Tryz.prog 63 #[.string s] w fun e w' => RdPost w (rOneF s).1 (rOneF s).2 e w' := by
  have hH := Hp.refl w
  have oZ := zadr_ok
  have d1 : decide ((s.size : Int) < 24) = false := decide_eq_false (by omega)
  have f4 : ∀ w, Gives Tryz.prog 113 #[.string s, .int .i64 8] w (.agg (fls [.many (adL (ad16 s 8)) 17]).toArray) := fun w => rsixteen_any (k := 8) (by omega) (by omega)
  have f7 : ∀ w, Gives Tryz.prog 114 #[.agg (fls [.many (adL (ad16 s 8)) 17]).toArray] w (.bool (grp6 (ad16 s 8))) := fun w => rGroup6_any
  have f5 : ∀ w, Gives Tryz.prog 115 #[.agg (fls [.many (adL (ad16 s 8)) 17]).toArray] w (.bool (zero6 (ad16 s 8))) := fun w => rzero6_any
  have oA := adL_ok (ad16 s 8)
  have d2 : decide (24 < (s.size : Int)) = true := decide_eq_true (by omega)
  have d3 : decide ((s.size : Int) < 28) = false := decide_eq_false (by omega)
  have hr : numAt s 4 2 < 65536 := numAt_lt s 4 2
  have n4 : ∀ w, Gives Tryz.prog 22 #[.string (s.extract 4 6)] w (.int .u64 (numAt s 4 2 : Int)) := fun w => rNumAt8 (i := 4) (j := 6) (by omega) (by omega)
  have z6 : decide ((6 : Int) ≤ (s.size : Int)) = true := decide_eq_true (by omega)
  have i0 : ∀ W, (Instr.index 9 (.string s) (.int .i64 0)).run Tryz.prog W = .ok (.int .u8 130) W := fun W => by
    have := run_at (s := s) (k := 0) (by omega) 0 rfl W
    rw [hk] at this
    exact this
  have dz : ((s.size : Int) == 24) = false := by simp; omega
  have z28 : decide ((28 : Int) ≤ (s.size : Int)) = true := decide_eq_true (by omega)
  have hb25 : numAt s 25 1 < 256 := numAt_lt s 25 1
  have hb24 : numAt s 24 1 < 256 := numAt_lt s 24 1
  have hm : numAt s 26 2 < 65536 := numAt_lt s 26 2
  have i25 : ∀ W, (Instr.index 9 (.string s) (.int .i64 25)).run Tryz.prog W = .ok (.int .u8 (numAt s 25 1 : Int)) W := fun W => run_at (k := 25) (by omega) 25 rfl W
  have i24 : ∀ W, (Instr.index 9 (.string s) (.int .i64 24)).run Tryz.prog W = .ok (.int .u8 (numAt s 24 1 : Int)) W := fun W => run_at (k := 24) (by omega) 24 rfl W
  have n2 : ∀ w, Gives Tryz.prog 22 #[.string (s.extract 26 28)] w (.int .u64 (numAt s 26 2 : Int)) := fun w => rNumAt8 (i := 26) (j := 28) (by omega) (by omega)
  have fv1 : ∀ w, Gives Tryz.prog 116 #[.int .i64 (numAt s 4 2 : Int)] w (.int .i64 (valN 4096 (numAt s 4 2) : Int)) := fun w => rv16 (by omega)
  have fv9 : ∀ w, Gives Tryz.prog 117 #[.int .i64 (numAt s 25 1 : Int)] w (.int .i64 (valN 16 (numAt s 25 1) : Int)) := fun w => rv8 (by omega)
  have SR := Lib.hid (srcR (B := w.heap.size) (w0 := w) (s := s) (k := 28) hm (by omega) hs)
  have e : rOneF s = if (grp6 (ad16 s 8) || zero6 (ad16 s 8)) = false then (⟨true, 1, 1, 0, ad16 s 8, false, 0, 0, [], []⟩, 2) else if zero6 (ad16 s 8) = true ∧ 0 < numAt s 26 2 then (⟨true, 2, 1, (valN 4096 (numAt s 4 2) : Int), ad16 s 8, decide (numAt s 24 1 / 8 % 2 = 1), ((numAt s 24 1 % 8 : Nat) : Int), (valN 16 (numAt s 25 1) : Int), [], []⟩, 2) else (⟨true, 2, 1, (valN 4096 (numAt s 4 2) : Int), ad16 s 8, decide (numAt s 24 1 / 8 % 2 = 1), ((numAt s 24 1 % 8 : Nat) : Int), (valN 16 (numAt s 25 1) : Int), (rSrcF s 28 (numAt s 26 2)).1, []⟩, (rSrcF s 28 (numAt s 26 2)).2) := by
    unfold rOneF
    rw [if_neg (by omega), if_neg (by omega), hk]
    simp only [beq_self_eq_true, Bool.true_and]
    split
    · rfl
    · rw [if_neg (by simp), if_neg (by omega)]
  rw [e]
  clear e hk
  generalize ad16 s 8 = a at *
  obtain ⟨A, hA'⟩ : ∃ Y, Y = adL a := ⟨_, rfl⟩
  rw [← hA'] at f4 f7 f5 oA
  have HA' := Lib.hid hA'
  clear hA'
  generalize zero6 a = zq at *
  generalize grp6 a = gb at *
  generalize numAt s 4 2 = r at *
  generalize numAt s 25 1 = b9 at *
  generalize numAt s 24 1 = b8 at *
  generalize numAt s 26 2 = n at *
  generalize ((valN 4096 r : Nat) : Int) = xr at *
  generalize ((valN 16 b9 : Nat) : Int) = xe at *
  generalize (rSrcF s 28 n).1 = L at *
  generalize (rSrcF s 28 n).2 = ec at *
  cases zq
  · have hno : ¬(false = true ∧ 0 < n) := by simp
    cases gb
    · rw [if_pos (show (false || false) = false from rfl)]
      clear SR
      go_enter Tryz.func63, Tryz.ntmps63
      go_wp2_with (first | (refine st ?_; clear hH; (first | intro W g hH | intro W hH)))
      (refine iRet2 Tryz.results63 tab_ok rfl rfl hH ?_; refine ⟨_, _, rfl, rfl, rfl, ?_⟩)
      exact RdPost.mk (sp := none) (rp := none) (sc := 0) (rc := 0) (D := []) (by unfold tkS; simp only; rw [← HA'.out]; rfl) ⟨hH.nil, by simp⟩ (fun B w0 W h => ⟨AdsAt.nil, RcsAt.nil⟩)
    · rw [if_neg (by simp), if_neg hno]
      clear hno
      go_enter Tryz.func63, Tryz.ntmps63
      go_wp2_with (first | (refine st ?_; clear hH; (first | intro W g hH | intro W hH)))
      ((with_reducible refine regKN [8, 10, 12] hH (SubH.refl) (by kernel_rfl) ?_); (clear hH; intro W hH); refine kt [0, 3, 4, 5] ?_; refine kl [1] ?_; refine kt [7] ?_; refine ko 2 ?_; go_wp2_with (first | (refine st ?_; clear hH; (first | intro W g hH | intro W hH))); refine ke ?_; refine ko 6 ?_; go_wp2_with (first | (refine st ?_; clear hH; (first | intro W g hH | intro W hH))); refine ke ?_; refine ko 8 ?_; go_wp2_with (first | (refine st ?_; clear hH; (first | intro W g hH | intro W hH))); refine kz ?_; refine kt [9] ?_; refine ko 10 ?_; go_wp2_with (first | (refine st ?_; clear hH; (first | intro W g hH | intro W hH))); refine kz ?_; refine kt [11] ?_; refine ko 12 ?_; go_wp2_with (first | (refine st ?_; clear hH; (first | intro W g hH | intro W hH))); refine kz ?_; refine hk_endN (by kernel_rfl) ?_)
      go_wp2_with (first | (refine st ?_; clear hH; (first | intro W g hH | intro W hH)))
      ((with_reducible refine regKN [10, 12] hH (SubH.refl) (by kernel_rfl) ?_); (clear hH; intro W hH); refine kt [0, 1, 2, 3, 4, 5, 6, 7, 8, 9] ?_; refine ko 10 ?_; go_wp2_with (first | (refine st ?_; clear hH; (first | intro W g hH | intro W hH))); refine kz ?_; refine kt [11] ?_; refine ko 12 ?_; go_wp2_with (first | (refine st ?_; clear hH; (first | intro W g hH | intro W hH))); refine kz ?_; refine hk_endN (by kernel_rfl) ?_)
      go_wp2_with (first | ((go_at_call 118; refine SR.out _ _ _ _ _ ?_ ?_ hH ?_; (focus (first | rfl | (push_cast; rfl) | (simp; done))); (focus (first | rfl | (push_cast; rfl) | (simp; done))); (clear hH; intro W sp sc D' hA hD' hH); (try simp only [List.cons_append, List.nil_append, List.append_assoc] at hH); ((try simp only [Act.put, pA, pB, pC])))) | (refine st ?_; clear hH; (first | intro W g hH | intro W hH)))
      (refine iRet2 Tryz.results63 tab_ok rfl rfl hH ?_; refine ⟨_, _, rfl, rfl, rfl, ?_⟩)
      exact RdPost.mk (sp := sp) (rp := none) (sc := sc) (rc := 0) (D := D') (by unfold tkS; simp only; rw [← HA'.out, q8]; (try rw [m8]); rfl) ⟨hH.sub (by repeat (first | exact SubH.refl | apply SubH.drop)), hD'.out⟩ (fun B w0 W h => ⟨hA.out _ _ _ h, RcsAt.nil⟩)
  · by_cases hn : 0 < n
    · have dn : decide ((0 : Int) < (n : Int)) = true := decide_eq_true (by omega)
      rw [if_neg (by simp), if_pos ⟨rfl, hn⟩]
      clear SR
      cases gb
      all_goals
        go_enter Tryz.func63, Tryz.ntmps63
        go_wp2_with (first | (refine st ?_; clear hH; (first | intro W g hH | intro W hH)))
        ((with_reducible refine regKN [8, 10, 12] hH (SubH.refl) (by kernel_rfl) ?_); (clear hH; intro W hH); refine kt [0, 3, 4, 5] ?_; refine kl [1] ?_; refine kt [7] ?_; refine ko 2 ?_; go_wp2_with (first | (refine st ?_; clear hH; (first | intro W g hH | intro W hH))); refine ke ?_; refine ko 6 ?_; go_wp2_with (first | (refine st ?_; clear hH; (first | intro W g hH | intro W hH))); refine ke ?_; refine ko 8 ?_; go_wp2_with (first | (refine st ?_; clear hH; (first | intro W g hH | intro W hH))); refine kz ?_; refine kt [9] ?_; refine ko 10 ?_; go_wp2_with (first | (refine st ?_; clear hH; (first | intro W g hH | intro W hH))); refine kz ?_; refine kt [11] ?_; refine ko 12 ?_; go_wp2_with (first | (refine st ?_; clear hH; (first | intro W g hH | intro W hH))); refine kz ?_; refine hk_endN (by kernel_rfl) ?_)
        go_wp2_with (first | (refine st ?_; clear hH; (first | intro W g hH | intro W hH)))
        ((with_reducible refine regKN [10, 12] hH (SubH.refl) (by kernel_rfl) ?_); (clear hH; intro W hH); refine kt [0, 1, 2, 3, 4, 5, 6, 7, 8, 9] ?_; refine ko 10 ?_; go_wp2_with (first | (refine st ?_; clear hH; (first | intro W g hH | intro W hH))); refine kz ?_; refine kt [11] ?_; refine ko 12 ?_; go_wp2_with (first | (refine st ?_; clear hH; (first | intro W g hH | intro W hH))); refine kz ?_; refine hk_endN (by kernel_rfl) ?_)
        go_wp2_with (first | (refine st ?_; clear hH; (first | intro W g hH | intro W hH)))
        (refine iRet2 Tryz.results63 tab_ok rfl rfl hH ?_; refine ⟨_, _, rfl, rfl, rfl, ?_⟩)
        exact RdPost.mk (sp := none) (rp := none) (sc := 0) (rc := 0) (D := []) (by unfold tkS; simp only; rw [← HA'.out, q8]; (try rw [m8]); rfl) ⟨hH.nil, by simp⟩ (fun B w0 W h => ⟨AdsAt.nil, RcsAt.nil⟩)
    · rw [if_neg (by simp), if_neg (fun h => hn h.2)]
      obtain rfl : n = 0 := by omega
      clear hn
      have dn : decide ((0 : Int) < ((0 : Nat) : Int)) = false := rfl
      cases gb
      all_goals
        go_enter Tryz.func63, Tryz.ntmps63
        go_wp2_with (first | (refine st ?_; clear hH; (first | intro W g hH | intro W hH)))
        ((with_reducible refine regKN [8, 10, 12] hH (SubH.refl) (by kernel_rfl) ?_); (clear hH; intro W hH); refine kt [0, 3, 4, 5] ?_; refine kl [1] ?_; refine kt [7] ?_; refine ko 2 ?_; go_wp2_with (first | (refine st ?_; clear hH; (first | intro W g hH | intro W hH))); refine ke ?_; refine ko 6 ?_; go_wp2_with (first | (refine st ?_; clear hH; (first | intro W g hH | intro W hH))); refine ke ?_; refine ko 8 ?_; go_wp2_with (first | (refine st ?_; clear hH; (first | intro W g hH | intro W hH))); refine kz ?_; refine kt [9] ?_; refine ko 10 ?_; go_wp2_with (first | (refine st ?_; clear hH; (first | intro W g hH | intro W hH))); refine kz ?_; refine kt [11] ?_; refine ko 12 ?_; go_wp2_with (first | (refine st ?_; clear hH; (first | intro W g hH | intro W hH))); refine kz ?_; refine hk_endN (by kernel_rfl) ?_)
        go_wp2_with (first | (refine st ?_; clear hH; (first | intro W g hH | intro W hH)))
        ((with_reducible refine regKN [10, 12] hH (SubH.refl) (by kernel_rfl) ?_); (clear hH; intro W hH); refine kt [0, 1, 2, 3, 4, 5, 6, 7, 8, 9] ?_; refine ko 10 ?_; go_wp2_with (first | (refine st ?_; clear hH; (first | intro W g hH | intro W hH))); refine kz ?_; refine kt [11] ?_; refine ko 12 ?_; go_wp2_with (first | (refine st ?_; clear hH; (first | intro W g hH | intro W hH))); refine kz ?_; refine hk_endN (by kernel_rfl) ?_)
        go_wp2_with (first | ((go_at_call 118; refine SR.out _ _ _ _ _ ?_ ?_ hH ?_; (focus (first | rfl | (push_cast; rfl) | (simp; done))); (focus (first | rfl | (push_cast; rfl) | (simp; done))); (clear hH; intro W sp sc D' hA hD' hH); (try simp only [List.cons_append, List.nil_append, List.append_assoc] at hH); ((try simp only [Act.put, pA, pB, pC])))) | (refine st ?_; clear hH; (first | intro W g hH | intro W hH)))
        (refine iRet2 Tryz.results63 tab_ok rfl rfl hH ?_; refine ⟨_, _, rfl, rfl, rfl, ?_⟩)
        exact RdPost.mk (sp := sp) (rp := none) (sc := sc) (rc := 0) (D := D') (by unfold tkS; simp only; rw [← HA'.out, q8]; (try rw [m8]); rfl) ⟨hH.sub (by repeat (first | exact SubH.refl | apply SubH.drop)), hD'.out⟩ (fun B w0 W h => ⟨hA.out _ _ _ h, RcsAt.nil⟩)
theorem rone_any (h8 : 8 ≤ s.size) (hs : s.size ≤ 100000) (hk : numAt s 0 1 = 130 ∨ numAt s 0 1 = 131 ∨ numAt s 0 1 = 132) : Calls Tryz.prog 63 #[.string s] w fun e w' => RdPost w (rOneF s).1 (rOneF s).2 e w' := by
  by_cases h24 : s.size < 24
  · exact rone_short h8 h24 hs hk
  rcases hk with hk | hk | hk
  · by_cases h : s.size = 24
    · exact rone_24 h hs hk
    · by_cases h28 : s.size < 28
      · exact rone_odd (by omega) h28 hs hk
      · exact rone_l (by omega) hs hk
  · exact rone_k (by omega) hs (.inl hk)
  · exact rone_k (by omega) hs (.inr hk)
end
end Go.Proofs.YtdnehjhijmeihaaGreat.V
