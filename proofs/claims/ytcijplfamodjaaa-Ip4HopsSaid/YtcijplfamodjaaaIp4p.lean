/-
  Contracts of package ip4's reference: a packet is read. Package ip4: what is read, and whether that is one.
-/
import Derived.Test.YtcijplfamodjaaaIp4q
import Derived.Test.YtcijplfamodjaaaIp4qo
import Derived.Test.YtcijplfamodjaaaIp4r
namespace Go.Proofs.Ytcijplfamodjaaa
open Go.ChangeShapes Go.WideShapes Go.ChangeAt Go.RowKit
set_option linter.unusedVariables false
set_option linter.unusedSimpArgs false

theorem own : ownKnob Try.prog.godebug = none := by kernel_rfl
theorem numL_two {s : ByteArray} {i : Nat} (h : i + 2 ≤ s.size) : numL (s.extract i (i + 2)).data.toList = by4 s i * 256 + by4 s (i + 1) := by
  have hl := size_toList s
  rw [toList_extract, show i + 2 - i = 2 by omega, List.drop_eq_getElem_cons (by omega), List.take_succ_cons, List.drop_eq_getElem_cons (by omega), List.take_succ_cons, List.take_zero]
  unfold by4
  rw [List.getElem?_eq_getElem (by omega), List.getElem?_eq_getElem (by omega)]
  simp [numL]
theorem rread4_any {s : ByteArray} {w : World} (hs : s.size ≤ 100000) : Gives Try.prog 9 #[.string s] w (.tuple #[.agg (p4Of s).L.toArray, .int .i64 (err4 s)]) := by
  have bad : ∀ e : Int, err4 s = e → e ≠ 0 → Gives Try.prog 9 #[.string s] w (.tuple #[.agg p4z.L.toArray, .int .i64 e]) → Gives Try.prog 9 #[.string s] w (.tuple #[.agg (p4Of s).L.toArray, .int .i64 (err4 s)]) := fun e h1 h2 h => by
    have hp : p4Of s = p4z := by unfold p4Of; rw [if_pos (by rw [h1]; exact h2)]
    rw [hp, h1]; exact h
  have szb : ∀ e : Int, sz4 s = e → e ≠ 0 → err4 s = e := fun e h1 h2 => by unfold err4; rw [if_pos (by rw [h1]; exact h2), h1]
  by_cases h1 : s.size < 20
  · exact bad 3 (szb 3 (by unfold sz4; rw [if_pos h1]) (by decide)) (by decide) (rr4_end h1)
  have d0 : decide ((s.size : Int) < 20) = false := decide_eq_false (by omega)
  have hi : ∀ i : Nat, (h : i < 20) → ∀ (x : Int), x = (i : Int) → ∀ W, (Instr.index 9 (.string s) (.int .i64 x)).run Try.prog W = .ok (.int .u8 (by4 s i : Int)) W := fun i h x hx W => by
    rw [run_idx Try.underlying9 s i (by omega) x hx W, by4_get (by omega)]
  have x0 := hi 0 (by omega) 0 rfl
  have g0 := by4_lt s 0
  by_cases h2 : by4 s 0 / 16 ≠ 4
  · exact bad 5 (szb 5 (by unfold sz4; rw [if_neg h1, if_pos h2]) (by decide)) (by decide) (rr4_kind (by omega) d0 x0 g0 (by simp; omega))
  have hnum : ∀ i : Nat, i + 2 ≤ s.size → ∀ w, Gives Try.prog 18 #[.string (s.extract i (i + 2))] w (.int .u64 ((by4 s i * 256 + by4 s (i + 1) : Nat) : Int)) := fun i h w => by
    have := rnum_any (s := s.extract i (i + 2)) (w := w) (by rw [extract_size h (by omega)]; omega)
    rwa [numL_two h] at this
  have m2 : ∀ w, Gives Try.prog 18 #[.string (s.extract 2 4)] w (.int .u64 ((by4 s 2 * 256 + by4 s 3 : Nat) : Int)) := hnum 2 (by omega)
  have m4 : ∀ w, Gives Try.prog 18 #[.string (s.extract 4 6)] w (.int .u64 ((by4 s 4 * 256 + by4 s 5 : Nat) : Int)) := hnum 4 (by omega)
  have m6 : ∀ w, Gives Try.prog 18 #[.string (s.extract 6 8)] w (.int .u64 ((by4 s 6 * 256 + by4 s 7 : Nat) : Int)) := hnum 6 (by omega)
  have b2 := by4_lt s 2
  have b3 := by4_lt s 3
  have b4 := by4_lt s 4
  have b5 := by4_lt s 5
  have b6 := by4_lt s 6
  have b7 := by4_lt s 7
  have d1 : ((by4 s 0 : Int) / 16 != 4) = false := by simp; omega
  have eN : (by4 s 0 : Int) % 16 = ((by4 s 0 % 16 : Nat) : Int) := by omega
  by_cases h3 : by4 s 0 % 16 * 4 < 20
  · exact bad 2 (szb 2 (by unfold sz4; rw [if_neg h1, if_neg h2, if_pos h3]) (by decide)) (by decide) (rr4_n20 (by omega) d0 x0 g0 d1 eN (by omega) (by omega) m2 (decide_eq_true (by omega)))
  have d2 : decide (4 * ((by4 s 0 % 16 : Nat) : Int) < 20) = false := decide_eq_false (by omega)
  by_cases h4 : s.size < by4 s 0 % 16 * 4
  · exact bad 3 (szb 3 (by unfold sz4; rw [if_neg h1, if_neg h2, if_neg h3, if_pos h4]) (by decide)) (by decide) (rr4_end2 (by omega) d0 x0 g0 d1 eN (by omega) (by omega) m2 (by omega) d2 (decide_eq_true (by omega)))
  have d3 : decide ((s.size : Int) < 4 * ((by4 s 0 % 16 : Nat) : Int)) = false := decide_eq_false (by omega)
  have hsum : ∀ w, Gives Try.prog 19 #[.string (s.extract 0 (4 * (by4 s 0 % 16)))] w (.int .i64 (foldN (wsum (s.data.toList.take (by4 s 0 % 16 * 4))) : Int)) := fun w => by
    have h := rSum_any (s := s.extract 0 (4 * (by4 s 0 % 16))) (w := w) (by rw [extract_size (by omega) (by omega)]; omega)
    rw [toList_extract, List.drop_zero, Nat.sub_zero] at h
    rw [Nat.mul_comm 4 (by4 s 0 % 16)] at h ⊢
    exact h
  have hfo := foldN_le (wsum (s.data.toList.take (by4 s 0 % 16 * 4)))
  by_cases h5 : foldN (wsum (s.data.toList.take (by4 s 0 % 16 * 4))) ≠ 65535
  · exact bad 4 (szb 4 (by unfold sz4; rw [if_neg h1, if_neg h2, if_neg h3, if_neg h4, if_pos h5]) (by decide)) (by decide) (rr4_sum (by omega) d0 x0 g0 d1 eN (by omega) (by omega) m2 (by omega) d2 (by omega) d3 hsum hfo (by simp; omega))
  have d4 : ((foldN (wsum (s.data.toList.take (by4 s 0 % 16 * 4))) : Int) != 65535) = false := by simp; omega
  by_cases h6 : by4 s 2 * 256 + by4 s 3 < by4 s 0 % 16 * 4
  · exact bad 2 (szb 2 (by unfold sz4; rw [if_neg h1, if_neg h2, if_neg h3, if_neg h4, if_neg h5, if_pos h6]) (by decide)) (by decide) (rr4_all (by omega) d0 x0 g0 d1 eN (by omega) (by omega) m2 (by omega) d2 (by omega) d3 hsum hfo d4 (decide_eq_true (by omega)))
  have d5 : decide (((by4 s 2 * 256 + by4 s 3 : Nat) : Int) < 4 * ((by4 s 0 % 16 : Nat) : Int)) = false := decide_eq_false (by omega)
  by_cases h7 : s.size < by4 s 2 * 256 + by4 s 3
  · exact bad 3 (szb 3 (by unfold sz4; rw [if_neg h1, if_neg h2, if_neg h3, if_neg h4, if_neg h5, if_neg h6, if_pos h7]) (by decide)) (by decide) (rr4_end3 (by omega) d0 x0 g0 d1 eN (by omega) (by omega) m2 (by omega) d2 (by omega) d3 hsum hfo d4 (by omega) d5 h7 (decide_eq_true (by omega)))
  have d6 : decide ((s.size : Int) < ((by4 s 2 * 256 + by4 s 3 : Nat) : Int)) = false := decide_eq_false (by omega)
  have hz : sz4 s = 0 := by unfold sz4; rw [if_neg h1, if_neg h2, if_neg h3, if_neg h4, if_neg h5, if_neg h6, if_neg h7]
  have hq : (((by4 s 6 * 256 + by4 s 7 : Nat) : Int)) % 16384 = (((by4 s 6 * 256 + by4 s 7) % 16384 : Nat) : Int) := by omega
  have hE : err4 s = if by4 s 6 % 64 ≠ 0 ∨ by4 s 7 ≠ 0 then 5 else if opt4s s = none then 2 else if 1400 < by4 s 2 * 256 + by4 s 3 - by4 s 0 % 16 * 4 then 6 else 0 := by unfold err4; rw [if_neg (by omega)]
  by_cases h8 : by4 s 6 % 64 ≠ 0 ∨ by4 s 7 ≠ 0
  · exact bad 5 (by rw [hE, if_pos h8]) (by decide) (rr4_frag (by omega) d0 x0 g0 d1 eN (by omega) (by omega) m2 (by omega) d2 (by omega) d3 hsum hfo d4 (by omega) d5 (by omega) d6 m6 (by omega) hq (by simp; omega))
  have d7 : ((((by4 s 6 * 256 + by4 s 7) % 16384 : Nat) : Int) != 0) = false := by simp; omega
  have hop : ∀ w, Gives Try.prog 20 #[.string (s.extract 20 (4 * (by4 s 0 % 16)))] w (.tuple #[.bool ((opt4s s).getD false), .bool (opt4s s).isSome]) := fun w => by
    have h := rAlert_any (T := s.extract 20 (4 * (by4 s 0 % 16))) (w := w) (by rw [extract_size (by omega) (by omega)]; omega)
    rw [Nat.mul_comm 4 (by4 s 0 % 16)] at h ⊢
    exact h
  by_cases h9 : opt4s s = none
  · rw [h9] at hop
    exact bad 2 (by rw [hE, if_neg h8, if_pos h9]) (by decide) (rr4_opt (by omega) d0 x0 g0 d1 eN (by omega) (by omega) m2 (by omega) d2 (by omega) d3 hsum hfo d4 (by omega) d5 (by omega) d6 m6 (by omega) hq d7 hop)
  obtain ⟨is, hsome⟩ := Option.ne_none_iff_exists'.1 h9
  rw [hsome] at hop
  simp only [Option.getD_some, Option.isSome_some] at hop
  by_cases h10 : 1400 < by4 s 2 * 256 + by4 s 3 - by4 s 0 % 16 * 4
  · exact bad 6 (by rw [hE, if_neg h8, if_neg h9, if_pos h10]) (by decide) (rr4_long (by omega) d0 x0 g0 d1 eN (by omega) (by omega) m2 (by omega) d2 (by omega) d3 hsum hfo d4 (by omega) d5 (by omega) d6 m6 (by omega) hq d7 hop (decide_eq_true (by omega)))
  have he : err4 s = 0 := by rw [hE, if_neg h8, if_neg h9, if_neg h10]
  have hp : p4Of s = ⟨by4 s 1, (by4 s 4 * 256 + by4 s 5 : Nat), by4 s 8, by4 s 9, false, adOf (s.extract 12 16), false, adOf (s.extract 16 20), is, s.extract (4 * (by4 s 0 % 16)) (by4 s 2 * 256 + by4 s 3)⟩ := by
    unfold p4Of; rw [if_neg (by rw [he]; simp), hsome, Nat.mul_comm 4]; rfl
  have eA := adOf4 (s := s) (i := 12) (by omega)
  have eB := adOf4 (s := s) (i := 16) (by omega)
  have rA : ∀ w, Gives Try.prog 21 #[.string (s.extract 12 16)] w (.tuple #[.agg (addrV false (adOf (s.extract 12 16))), .bool true]) := fun w => raRead_one (by rw [extract_size (by omega) (by omega)]; simp)
  have rB : ∀ w, Gives Try.prog 21 #[.string (s.extract 16 20)] w (.tuple #[.agg (addrV false (adOf (s.extract 16 20))), .bool true]) := fun w => raRead_one (by rw [extract_size (by omega) (by omega)]; simp)
  rw [he, hp]
  exact rr4_ok (X := addrL false (adOf (s.extract 12 16))) (Y := addrL false (adOf (s.extract 16 20))) (by omega) d0 x0 g0 d1 eN (by omega) (by omega) m2 (by omega) d2 (by omega) d3 hsum hfo d4 (by omega) d5 (by omega) d6 m6 (by omega) hq d7 hop (decide_eq_false (by omega)) (hi 1 (by omega) 1 rfl) (hi 8 (by omega) 8 rfl) (hi 9 (by omega) 9 rfl) (by4_lt s 1) (by4_lt s 8) (by4_lt s 9) m4 (by omega) (fun w => by rw [fls1]; exact rA w) (fun w => by rw [fls1]; exact rB w)
    (okA_addr (by rw [eA]; simp)) (okA_addr (by rw [eB]; simp))
theorem Read4_any {s : ByteArray} {w : World} (hs : s.size ≤ 100000) : Gives Try.prog 8 #[.string s] w (.tuple #[.agg (p4Of s).L.toArray, .int .i64 (err4 s)]) := by
  refine Gives.of ?_
  have hz := Lib.hid (p4Of_ok s).size
  have h1 := P4.one (p := p4Of s)
  have hr : ∀ w, Gives Try.prog 17 #[.string s] w (.tuple #[.agg (p4Of s).L.toArray, .int .i64 (err4 s)]) := fun w => read4_any hs
  generalize err4 s = e at *
  generalize (p4Of s).L = L at *
  go_enter Try.func8, Try.ntmps8
  go_wp2_with (first | ((refine wpList_loadX 27 rfl rfl rfl rfl Try.underlying27 rfl ?_; refine ⟨?_, ?_, ?_, ?_⟩; rotate_left; (focus ((repeat (first | with_reducible assumption | (with_reducible refine Row.newAt ?_; focus (first | with_reducible rfl | (simp; done))) | with_reducible refine Row.alloc ?_ _ | with_reducible refine Row.drew ?_ | focus (with_reducible refine Row.bw ?_ ?_; rotate_left; focus ((first | omega | (simp; done) | (simp; omega) | ((repeat (first | omega | (simp; done) | refine lt_alloc ?_ | refine BW.lt_of ?_ | refine lt_set ?_ | refine lt_setA ?_ | refine lt_drew ?_ | refine lt_drewN ?_)); done) | (refine Nat.ne_of_lt ?_; ((repeat (first | omega | (simp; done) | refine lt_alloc ?_ | refine BW.lt_of ?_ | refine lt_set ?_ | refine lt_setA ?_ | refine lt_drew ?_ | refine lt_drewN ?_)); done)) | (refine Nat.ne_of_gt ?_; ((repeat (first | omega | (simp; done) | refine lt_alloc ?_ | refine BW.lt_of ?_ | refine lt_set ?_ | refine lt_setA ?_ | refine lt_drew ?_ | refine lt_drewN ?_)); done))))) | focus (with_reducible refine Row.far ?_ ?_ _; rotate_left; focus ((first | omega | (simp; done) | (simp; omega) | ((repeat (first | omega | (simp; done) | refine lt_alloc ?_ | refine BW.lt_of ?_ | refine lt_set ?_ | refine lt_setA ?_ | refine lt_drew ?_ | refine lt_drewN ?_)); done) | (refine Nat.ne_of_lt ?_; ((repeat (first | omega | (simp; done) | refine lt_alloc ?_ | refine BW.lt_of ?_ | refine lt_set ?_ | refine lt_setA ?_ | refine lt_drew ?_ | refine lt_drewN ?_)); done)) | (refine Nat.ne_of_gt ?_; ((repeat (first | omega | (simp; done) | refine lt_alloc ?_ | refine BW.lt_of ?_ | refine lt_set ?_ | refine lt_setA ?_ | refine lt_drew ?_ | refine lt_drewN ?_)); done))))) | focus (with_reducible refine Row.set (cs := ?_) ?_ _ _; rotate_left) | focus (with_reducible refine Row.farAll ?_ ?_ _; rotate_left; focus ((first | omega | (simp; done) | (simp; omega) | ((repeat (first | omega | (simp; done) | refine lt_alloc ?_ | refine BW.lt_of ?_ | refine lt_set ?_ | refine lt_setA ?_ | refine lt_drew ?_ | refine lt_drewN ?_)); done) | (refine Nat.ne_of_lt ?_; ((repeat (first | omega | (simp; done) | refine lt_alloc ?_ | refine BW.lt_of ?_ | refine lt_set ?_ | refine lt_setA ?_ | refine lt_drew ?_ | refine lt_drewN ?_)); done)) | (refine Nat.ne_of_gt ?_; ((repeat (first | omega | (simp; done) | refine lt_alloc ?_ | refine BW.lt_of ?_ | refine lt_set ?_ | refine lt_setA ?_ | refine lt_drew ?_ | refine lt_drewN ?_)); done))))) | focus (with_reducible refine Row.setAll (cs := ?_) ?_ ?_; rotate_left) | focus (with_reducible refine Row.farSet ?_ ?_ _ _; rotate_left; focus ((first | omega | (simp; done) | (simp; omega) | ((repeat (first | omega | (simp; done) | refine lt_alloc ?_ | refine BW.lt_of ?_ | refine lt_set ?_ | refine lt_setA ?_ | refine lt_drew ?_ | refine lt_drewN ?_)); done) | (refine Nat.ne_of_lt ?_; ((repeat (first | omega | (simp; done) | refine lt_alloc ?_ | refine BW.lt_of ?_ | refine lt_set ?_ | refine lt_setA ?_ | refine lt_drew ?_ | refine lt_drewN ?_)); done)) | (refine Nat.ne_of_gt ?_; ((repeat (first | omega | (simp; done) | refine lt_alloc ?_ | refine BW.lt_of ?_ | refine lt_set ?_ | refine lt_setA ?_ | refine lt_drew ?_ | refine lt_drewN ?_)); done))))) | focus (with_reducible refine Row.setAt (cs := ?_) ?_ ?_; rotate_left))); (try all_goals (first | rfl | (simp only [Array.size_setIfInBounds, List.size_toArray, List.length_set, hz.out]; first | done | rfl | kernel_rfl))); done)); (focus (first | rfl | (simp only [Array.size_setIfInBounds, List.size_toArray, List.length_set, hz.out]; first | done | rfl | kernel_rfl))); (try simp only [List.setIfInBounds_toArray]))) | (((with_reducible refine at_alloc ?_); refine wpList_storeN 27 rfl rfl rfl rfl rfl ?_ ?_ ?_ ?_ ?_; (focus (first | with_reducible rfl | (simp; done))); (focus (first | rfl | (simp only [Array.size_setIfInBounds, List.size_toArray, List.length_set, hz.out]; first | done | rfl | kernel_rfl))); (focus (first | rfl | (simp only [Array.size_setIfInBounds, List.size_toArray, List.length_set, hz.out]; first | done | rfl | kernel_rfl))); (focus (first | assumption | (simp only [List.setIfInBounds_toArray]; assumption) | exact oneL _ rfl)))) | ((refine wpList_storeX 27 rfl rfl rfl rfl rfl ?_; refine ⟨?_, ?_, ?_, ?_, ?_, ?_⟩; rotate_left; (focus ((repeat (first | with_reducible assumption | (with_reducible refine Row.newAt ?_; focus (first | with_reducible rfl | (simp; done))) | with_reducible refine Row.alloc ?_ _ | with_reducible refine Row.drew ?_ | focus (with_reducible refine Row.bw ?_ ?_; rotate_left; focus ((first | omega | (simp; done) | (simp; omega) | ((repeat (first | omega | (simp; done) | refine lt_alloc ?_ | refine BW.lt_of ?_ | refine lt_set ?_ | refine lt_setA ?_ | refine lt_drew ?_ | refine lt_drewN ?_)); done) | (refine Nat.ne_of_lt ?_; ((repeat (first | omega | (simp; done) | refine lt_alloc ?_ | refine BW.lt_of ?_ | refine lt_set ?_ | refine lt_setA ?_ | refine lt_drew ?_ | refine lt_drewN ?_)); done)) | (refine Nat.ne_of_gt ?_; ((repeat (first | omega | (simp; done) | refine lt_alloc ?_ | refine BW.lt_of ?_ | refine lt_set ?_ | refine lt_setA ?_ | refine lt_drew ?_ | refine lt_drewN ?_)); done))))) | focus (with_reducible refine Row.far ?_ ?_ _; rotate_left; focus ((first | omega | (simp; done) | (simp; omega) | ((repeat (first | omega | (simp; done) | refine lt_alloc ?_ | refine BW.lt_of ?_ | refine lt_set ?_ | refine lt_setA ?_ | refine lt_drew ?_ | refine lt_drewN ?_)); done) | (refine Nat.ne_of_lt ?_; ((repeat (first | omega | (simp; done) | refine lt_alloc ?_ | refine BW.lt_of ?_ | refine lt_set ?_ | refine lt_setA ?_ | refine lt_drew ?_ | refine lt_drewN ?_)); done)) | (refine Nat.ne_of_gt ?_; ((repeat (first | omega | (simp; done) | refine lt_alloc ?_ | refine BW.lt_of ?_ | refine lt_set ?_ | refine lt_setA ?_ | refine lt_drew ?_ | refine lt_drewN ?_)); done))))) | focus (with_reducible refine Row.set (cs := ?_) ?_ _ _; rotate_left) | focus (with_reducible refine Row.farAll ?_ ?_ _; rotate_left; focus ((first | omega | (simp; done) | (simp; omega) | ((repeat (first | omega | (simp; done) | refine lt_alloc ?_ | refine BW.lt_of ?_ | refine lt_set ?_ | refine lt_setA ?_ | refine lt_drew ?_ | refine lt_drewN ?_)); done) | (refine Nat.ne_of_lt ?_; ((repeat (first | omega | (simp; done) | refine lt_alloc ?_ | refine BW.lt_of ?_ | refine lt_set ?_ | refine lt_setA ?_ | refine lt_drew ?_ | refine lt_drewN ?_)); done)) | (refine Nat.ne_of_gt ?_; ((repeat (first | omega | (simp; done) | refine lt_alloc ?_ | refine BW.lt_of ?_ | refine lt_set ?_ | refine lt_setA ?_ | refine lt_drew ?_ | refine lt_drewN ?_)); done))))) | focus (with_reducible refine Row.setAll (cs := ?_) ?_ ?_; rotate_left) | focus (with_reducible refine Row.farSet ?_ ?_ _ _; rotate_left; focus ((first | omega | (simp; done) | (simp; omega) | ((repeat (first | omega | (simp; done) | refine lt_alloc ?_ | refine BW.lt_of ?_ | refine lt_set ?_ | refine lt_setA ?_ | refine lt_drew ?_ | refine lt_drewN ?_)); done) | (refine Nat.ne_of_lt ?_; ((repeat (first | omega | (simp; done) | refine lt_alloc ?_ | refine BW.lt_of ?_ | refine lt_set ?_ | refine lt_setA ?_ | refine lt_drew ?_ | refine lt_drewN ?_)); done)) | (refine Nat.ne_of_gt ?_; ((repeat (first | omega | (simp; done) | refine lt_alloc ?_ | refine BW.lt_of ?_ | refine lt_set ?_ | refine lt_setA ?_ | refine lt_drew ?_ | refine lt_drewN ?_)); done))))) | focus (with_reducible refine Row.setAt (cs := ?_) ?_ ?_; rotate_left))); (try all_goals (first | rfl | (simp only [Array.size_setIfInBounds, List.size_toArray, List.length_set, hz.out]; first | done | rfl | kernel_rfl))); done)); (focus (first | rfl | (simp only [Array.size_setIfInBounds, List.size_toArray, List.length_set, hz.out]; first | done | rfl | kernel_rfl))); (focus (first | rfl | (simp only [Array.size_setIfInBounds, List.size_toArray, List.length_set, hz.out]; first | done | rfl | kernel_rfl))); (focus (first | assumption | (simp only [List.setIfInBounds_toArray]; assumption) | exact oneL _ rfl)))) | ((with_reducible (first | apply Gives.call_bw (Nat.le_refl _) | apply Gives.call)); (focus (first | (with_reducible exact hr _))); intro x; (try dsimp only [drew_heap] at x)))
  (refine ret_cell_tmp Try.results8 Try.underlying27 rfl rfl rfl ?_; refine ⟨?_, ?_, ?_, ?_⟩; rotate_left; (focus ((repeat (first | with_reducible assumption | (with_reducible refine Row.newAt ?_; focus (first | with_reducible rfl | (simp; done))) | with_reducible refine Row.alloc ?_ _ | with_reducible refine Row.drew ?_ | focus (with_reducible refine Row.bw ?_ ?_; rotate_left; focus ((first | omega | (simp; done) | (simp; omega) | ((repeat (first | omega | (simp; done) | refine lt_alloc ?_ | refine BW.lt_of ?_ | refine lt_set ?_ | refine lt_setA ?_ | refine lt_drew ?_ | refine lt_drewN ?_)); done) | (refine Nat.ne_of_lt ?_; ((repeat (first | omega | (simp; done) | refine lt_alloc ?_ | refine BW.lt_of ?_ | refine lt_set ?_ | refine lt_setA ?_ | refine lt_drew ?_ | refine lt_drewN ?_)); done)) | (refine Nat.ne_of_gt ?_; ((repeat (first | omega | (simp; done) | refine lt_alloc ?_ | refine BW.lt_of ?_ | refine lt_set ?_ | refine lt_setA ?_ | refine lt_drew ?_ | refine lt_drewN ?_)); done))))) | focus (with_reducible refine Row.far ?_ ?_ _; rotate_left; focus ((first | omega | (simp; done) | (simp; omega) | ((repeat (first | omega | (simp; done) | refine lt_alloc ?_ | refine BW.lt_of ?_ | refine lt_set ?_ | refine lt_setA ?_ | refine lt_drew ?_ | refine lt_drewN ?_)); done) | (refine Nat.ne_of_lt ?_; ((repeat (first | omega | (simp; done) | refine lt_alloc ?_ | refine BW.lt_of ?_ | refine lt_set ?_ | refine lt_setA ?_ | refine lt_drew ?_ | refine lt_drewN ?_)); done)) | (refine Nat.ne_of_gt ?_; ((repeat (first | omega | (simp; done) | refine lt_alloc ?_ | refine BW.lt_of ?_ | refine lt_set ?_ | refine lt_setA ?_ | refine lt_drew ?_ | refine lt_drewN ?_)); done))))) | focus (with_reducible refine Row.set (cs := ?_) ?_ _ _; rotate_left) | focus (with_reducible refine Row.farAll ?_ ?_ _; rotate_left; focus ((first | omega | (simp; done) | (simp; omega) | ((repeat (first | omega | (simp; done) | refine lt_alloc ?_ | refine BW.lt_of ?_ | refine lt_set ?_ | refine lt_setA ?_ | refine lt_drew ?_ | refine lt_drewN ?_)); done) | (refine Nat.ne_of_lt ?_; ((repeat (first | omega | (simp; done) | refine lt_alloc ?_ | refine BW.lt_of ?_ | refine lt_set ?_ | refine lt_setA ?_ | refine lt_drew ?_ | refine lt_drewN ?_)); done)) | (refine Nat.ne_of_gt ?_; ((repeat (first | omega | (simp; done) | refine lt_alloc ?_ | refine BW.lt_of ?_ | refine lt_set ?_ | refine lt_setA ?_ | refine lt_drew ?_ | refine lt_drewN ?_)); done))))) | focus (with_reducible refine Row.setAll (cs := ?_) ?_ ?_; rotate_left) | focus (with_reducible refine Row.farSet ?_ ?_ _ _; rotate_left; focus ((first | omega | (simp; done) | (simp; omega) | ((repeat (first | omega | (simp; done) | refine lt_alloc ?_ | refine BW.lt_of ?_ | refine lt_set ?_ | refine lt_setA ?_ | refine lt_drew ?_ | refine lt_drewN ?_)); done) | (refine Nat.ne_of_lt ?_; ((repeat (first | omega | (simp; done) | refine lt_alloc ?_ | refine BW.lt_of ?_ | refine lt_set ?_ | refine lt_setA ?_ | refine lt_drew ?_ | refine lt_drewN ?_)); done)) | (refine Nat.ne_of_gt ?_; ((repeat (first | omega | (simp; done) | refine lt_alloc ?_ | refine BW.lt_of ?_ | refine lt_set ?_ | refine lt_setA ?_ | refine lt_drew ?_ | refine lt_drewN ?_)); done))))) | focus (with_reducible refine Row.setAt (cs := ?_) ?_ ?_; rotate_left))); (try all_goals (first | rfl | (simp only [Array.size_setIfInBounds, List.size_toArray, List.length_set, hz.out]; first | done | rfl | kernel_rfl))); done)); (focus (first | rfl | (simp only [Array.size_setIfInBounds, List.size_toArray, List.length_set, hz.out]; first | done | rfl | kernel_rfl))))
  exact ⟨rfl, by (first | ((repeat (with_reducible first | assumption | exact Below.refl _ _ | (refine below_bw _ ?_ ?_; rotate_left; focus (((repeat (with_reducible first | assumption | exact Nat.le_refl _ | refine BW.le_of ?_ | refine le_alloc ?_ | refine le_drew ?_ | refine le_drewN ?_ | refine le_set ?_ | refine le_plus ?_ | omega | refine le_setA ?_)); done))) | (refine Below.alloc ?_ ?_ _; rotate_left; focus (((repeat (with_reducible first | assumption | exact Nat.le_refl _ | refine BW.le_of ?_ | refine le_alloc ?_ | refine le_drew ?_ | refine le_drewN ?_ | refine le_set ?_ | refine le_plus ?_ | omega | refine le_setA ?_)); done))) | (refine Below.setCell ?_ ?_ _; rotate_left; focus (((repeat (with_reducible first | assumption | exact Nat.le_refl _ | refine BW.le_of ?_ | refine le_alloc ?_ | refine le_drew ?_ | refine le_drewN ?_ | refine le_set ?_ | refine le_plus ?_ | omega | refine le_setA ?_)); done))) | refine Below.drew ?_ | refine below_drewN ?_ _ | (refine below_setCells ?_ ?_ _ _; rotate_left; focus (((repeat (with_reducible first | assumption | exact Nat.le_refl _ | refine BW.le_of ?_ | refine le_alloc ?_ | refine le_drew ?_ | refine le_drewN ?_ | refine le_set ?_ | refine le_plus ?_ | omega | refine le_setA ?_)); done))))); done) | (simp; done) | (repeat (first | assumption | exact Below.refl _ _ | (refine below_bw _ ?_ ?_; rotate_left; focus ((first | omega | (repeat (first | with_reducible assumption | with_reducible exact Nat.le_refl _ | refine BW.le_of ?_ | refine le_alloc ?_ | refine le_drew ?_ | refine le_drewN ?_ | refine le_set ?_ | refine le_plus ?_ | assumption | exact Nat.le_refl _))))) | (refine Below.alloc ?_ ?_ _; rotate_left; focus ((first | omega | (repeat (first | with_reducible assumption | with_reducible exact Nat.le_refl _ | refine BW.le_of ?_ | refine le_alloc ?_ | refine le_drew ?_ | refine le_drewN ?_ | refine le_set ?_ | refine le_plus ?_ | assumption | exact Nat.le_refl _))))) | (refine Below.setCell ?_ ?_ _; rotate_left; focus ((first | omega | (repeat (first | with_reducible assumption | with_reducible exact Nat.le_refl _ | refine BW.le_of ?_ | refine le_alloc ?_ | refine le_drew ?_ | refine le_drewN ?_ | refine le_set ?_ | refine le_plus ?_ | assumption | exact Nat.le_refl _))))) | refine Below.drew ?_ | refine below_drewN ?_ _ | (refine below_setCells ?_ ?_ _ _; rotate_left; focus ((first | omega | (repeat (first | with_reducible assumption | with_reducible exact Nat.le_refl _ | refine BW.le_of ?_ | refine le_alloc ?_ | refine le_drew ?_ | refine le_drewN ?_ | refine le_set ?_ | refine le_plus ?_ | assumption | exact Nat.le_refl _))))))))⟩
theorem p4Of_rg (s : ByteArray) (hs : s.size ≤ 100000) : (p4Of s).Rg := by
  have b : ∀ i, by4 s i < 256 := by4_lt s
  unfold p4Of
  split
  · exact p4z_rg
  · have b1 := b 1; have b4 := b 4; have b5 := b 5; have b8 := b 8; have b9 := b 9
    refine ⟨?_, ?_, ?_, ?_, ?_⟩
    all_goals simp only [inI]
    all_goals first | omega | skip
    have : (s.extract (by4 s 0 % 16 * 4) (by4 s 2 * 256 + by4 s 3)).size ≤ s.size := by rw [← size_toList, toList_extract, List.length_take, List.length_drop, size_toList]; omega
    omega
theorem p4Of_good (s : ByteArray) (h : err4 s = 0) : g4 (p4Of s) = true := by
  have hz : sz4 s = 0 := by
    apply Classical.byContradiction
    intro h1
    unfold err4 at h
    rw [if_pos h1] at h; exact h1 h
  obtain ⟨k1, k2, k3, k4, k5, k6, k7⟩ := sz4_ok hz
  have hl : by4 s 2 * 256 + by4 s 3 - by4 s 0 % 16 * 4 ≤ 1400 := by
    unfold err4 at h
    rw [if_neg (by omega)] at h
    split at h
    · omega
    · split at h
      · omega
      · split at h <;> omega
  have b : ∀ i, by4 s i < 256 := by4_lt s
  have b1 := b 1; have b4 := b 4; have b5 := b 5; have b8 := b 8; have b9 := b 9
  unfold p4Of
  rw [if_neg (by rw [h]; simp)]
  rw [show (12 : Nat) = 12 from rfl, adOf4 (s := s) (i := 12) (by omega), adOf4 (s := s) (i := 16) (by omega)]
  unfold g4 g4n g4a goodA
  simp only [Bool.and_eq_true, decide_eq_true_eq]
  refine ⟨⟨by omega, ?_, ?_⟩, ?_⟩
  · simp
  · simp
  · rw [extract_size k7 k6]; exact hl
end Go.Proofs.Ytcijplfamodjaaa
