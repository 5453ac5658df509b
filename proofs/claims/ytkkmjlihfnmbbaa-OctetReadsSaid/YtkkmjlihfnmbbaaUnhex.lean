/-
  Contracts of octet.Unhex and of the reference's Sign, Hex, Unhex.
-/
import Derived.Test.YtkkmjlihfnmbbaaHex
namespace Go.Proofs.Ytkkmjlihfnmbbaa
open Go.ChangeShapes Go.WideShapes Go.ChangeAt Go.RowKit
set_option linter.unusedVariables false
set_option linter.unusedSimpArgs false

theorem rsign_any {x : Int} {n : Nat} {w : World} (hx : x = (n : Int)) (hn : n < 16) : Gives Try.prog 40 #[.int .u8 x] w (.string (str [sign n])) := by
  subst hx
  refine Gives.of ?_
  have hc : n = 0 ∨ n = 1 ∨ n = 2 ∨ n = 3 ∨ n = 4 ∨ n = 5 ∨ n = 6 ∨ n = 7 ∨ n = 8 ∨ n = 9 ∨ n = 10 ∨ n = 11 ∨ n = 12 ∨ n = 13 ∨ n = 14 ∨ n = 15 := by omega
  have he : (ByteArray.mk #[48, 49, 50, 51, 52, 53, 54, 55, 56, 57, 97, 98, 99, 100, 101, 102]).extract n (n + 1) = str [sign n] := by
    rcases hc with rfl | rfl | rfl | rfl | rfl | rfl | rfl | rfl | rfl | rfl | rfl | rfl | rfl | rfl | rfl | rfl <;> decide
  have HE := Lib.hid he; clear he
  clear hc
  go_enter Try.func40, Try.ntmps40
  go_wp2
  go_ret
  exact ⟨by rw [← HE.out]; rfl, by simp⟩
theorem digit_any {b : Nat} {w : World} (hb : b < 256) : Gives Try.prog 38 #[.int .u8 b] w (.tuple #[.int .u8 (digN b), .bool (digOk b)]) := by
  refine Gives.of ?_
  go_enter Try.func38, Try.ntmps38
  go_wp2
  all_goals go_ret2
  all_goals refine ⟨ret_ib ?_ ?_, by simp⟩
  all_goals first | (unfold digN; (repeat' split) <;> omega) | (rw [Bool.eq_iff_iff]; simp [digOk]; omega)
theorem rhex_any {s : ByteArray} {w : World} (hs : s.size ≤ 1000000) : Gives Try.prog 23 #[.string s] w (.string (str (hexL s.data.toList))) := by
  refine Gives.of ?_
  go_enter Try.func23, Try.ntmps23
  go_wp2
  go_loopw [3, 4] (fun v i wr => ∃ k : Nat, k ≤ s.size ∧ i = .int .i64 k ∧ v = .string (str (hexL (s.data.toList.take k))) ∧ ∃ y : BW w.heap.size w, wr = y.w) (fun _ i _ => s.size - (intOf i).toNat)
  case atStart => exact ⟨0, by omega, rfl, rfl, BW.mk (Below.refl _ _), rfl⟩
  case round =>
    obtain ⟨k, hk, rfl, rfl, y, rfl⟩ := hrel
    by_cases hlt : k < s.size
    · have hs2 := Lib.hid (take_snocB s k hlt)
      have hb := s[k].toNat_lt
      have hs1 : ∀ w, Gives Try.prog 40 #[.int .u8 ((s[k].toNat : Int) / 16)] w (.string (str [sign (s[k].toNat / 16)])) := fun w => rsign_any (by omega) (by omega)
      have hs3 : ∀ w, Gives Try.prog 40 #[.int .u8 ((s[k].toNat : Int) % 16)] w (.string (str [sign (s[k].toNat % 16)])) := fun w => rsign_any (by omega) (by omega)
      have z1 : (str (hexL (s.data.toList.take k))).size ≤ 2000000 := by rw [str_size, hexL_length, List.length_take]; omega
      have z2 : (str [sign (s[k].toNat / 16)]).size ≤ 1 := by simp
      have z3 : (str [sign (s[k].toNat % 16)]).size ≤ 1 := by simp
      have z4 : (str (hexL (s.data.toList.take k)) ++ str [sign (s[k].toNat / 16)]).size ≤ 2000001 := by rw [ByteArray.size_append]; omega
      go_wp2_with fail
      ((with_reducible first | refine wp_region_bx (Nat.le_refl _) (by kernel_rfl) (by kernel_rfl) ?_ | refine wp_region_bw (by kernel_rfl) (by kernel_rfl) ?_); (repeat (go_big_quiet_step (((with_reducible apply Gives.bw (Nat.le_refl _)); first | (with_reducible exact hs1 _) | (with_reducible exact hs3 _))))); refine wpQuiet_nil ?_; rintro _ ⟨x, rfl⟩)
      go_wp2
      refine ⟨⟨k + 1, by omega, by go_num, ?_, _, rfl⟩, by simp [intOf]; omega⟩
      rw [hs2.out, hexL_snoc, str_append, str_append, List.append_assoc]
      rfl
    · go_wp2
      go_ret
      exact ⟨by rw [List.take_of_length_le (by rw [size_toList]; omega)]; rfl, by (first | ((repeat (with_reducible first | assumption | exact Below.refl _ _ | (refine below_bw _ ?_ ?_; rotate_left; focus (((repeat (with_reducible first | assumption | exact Nat.le_refl _ | refine BW.le_of ?_ | refine le_alloc ?_ | refine le_drew ?_ | refine le_drewN ?_ | refine le_set ?_ | refine le_plus ?_ | omega | refine le_setA ?_)); done))) | (refine Below.alloc ?_ ?_ _; rotate_left; focus (((repeat (with_reducible first | assumption | exact Nat.le_refl _ | refine BW.le_of ?_ | refine le_alloc ?_ | refine le_drew ?_ | refine le_drewN ?_ | refine le_set ?_ | refine le_plus ?_ | omega | refine le_setA ?_)); done))) | (refine Below.setCell ?_ ?_ _; rotate_left; focus (((repeat (with_reducible first | assumption | exact Nat.le_refl _ | refine BW.le_of ?_ | refine le_alloc ?_ | refine le_drew ?_ | refine le_drewN ?_ | refine le_set ?_ | refine le_plus ?_ | omega | refine le_setA ?_)); done))) | refine Below.drew ?_ | refine below_drewN ?_ _ | (refine below_setCells ?_ ?_ _ _; rotate_left; focus (((repeat (with_reducible first | assumption | exact Nat.le_refl _ | refine BW.le_of ?_ | refine le_alloc ?_ | refine le_drew ?_ | refine le_drewN ?_ | refine le_set ?_ | refine le_plus ?_ | omega | refine le_setA ?_)); done))))); done) | (simp; done) | (repeat (first | assumption | exact Below.refl _ _ | (refine below_bw _ ?_ ?_; rotate_left; focus ((first | omega | (repeat (first | with_reducible assumption | with_reducible exact Nat.le_refl _ | refine BW.le_of ?_ | refine le_alloc ?_ | refine le_drew ?_ | refine le_drewN ?_ | refine le_set ?_ | refine le_plus ?_ | assumption | exact Nat.le_refl _))))) | (refine Below.alloc ?_ ?_ _; rotate_left; focus ((first | omega | (repeat (first | with_reducible assumption | with_reducible exact Nat.le_refl _ | refine BW.le_of ?_ | refine le_alloc ?_ | refine le_drew ?_ | refine le_drewN ?_ | refine le_set ?_ | refine le_plus ?_ | assumption | exact Nat.le_refl _))))) | (refine Below.setCell ?_ ?_ _; rotate_left; focus ((first | omega | (repeat (first | with_reducible assumption | with_reducible exact Nat.le_refl _ | refine BW.le_of ?_ | refine le_alloc ?_ | refine le_drew ?_ | refine le_drewN ?_ | refine le_set ?_ | refine le_plus ?_ | assumption | exact Nat.le_refl _))))) | refine Below.drew ?_ | refine below_drewN ?_ _ | (refine below_setCells ?_ ?_ _ _; rotate_left; focus ((first | omega | (repeat (first | with_reducible assumption | with_reducible exact Nat.le_refl _ | refine BW.le_of ?_ | refine le_alloc ?_ | refine le_drew ?_ | refine le_drewN ?_ | refine le_set ?_ | refine le_plus ?_ | assumption | exact Nat.le_refl _))))))))⟩
def unhexV : Option (List UInt8) → Value
  | some l => .tuple #[.string (str l), .int .i64 0]
  | none => .tuple #[.string ⟨#[]⟩, .int .i64 2]
theorem unhexL_step {l : List UInt8} {k : Nat} {a b : UInt8} (ha : l[k]? = some a) (hb : l[k + 1]? = some b) : unhexL (l.drop k) = if digOk a.toNat && digOk b.toNat then (unhexL (l.drop (k + 2))).map (UInt8.ofNat (16 * digN a.toNat + digN b.toNat) :: ·) else none := by
  obtain ⟨h1, rfl⟩ := List.getElem?_eq_some_iff.1 ha
  obtain ⟨h2, rfl⟩ := List.getElem?_eq_some_iff.1 hb
  rw [List.drop_eq_getElem_cons h1, List.drop_eq_getElem_cons h2, unhexL]
theorem unhexL_odd : ∀ (n : Nat) (l : List UInt8), l.length = 2 * n + 1 → unhexL l = none
  | _, [], h => by simp at h
  | _, [_], _ => rfl
  | 0, _ :: _ :: _, h => by simp at h
  | n + 1, a :: b :: r, h => by
    rw [unhexL, unhexL_odd n r (by simp at h; omega)]
    simp
theorem shl4or {a b : Nat} (ha : digOk a = true) (hb : digOk b = true) : bits .or .u8 ((digN a : Int) * 16) (digN b : Int) = ((UInt8.ofNat (16 * digN a + digN b)).toNat : Int) := by
  have h1 := digN_lt a
  have h2 := digN_lt b
  rw [show ((digN a : Int) * 16) = ((digN a * 16 : Nat) : Int) by omega, u8_or_nat _ _ (by omega) (by omega), nat_join 4 _ _ (by omega) (by omega), UInt8.toNat_ofNat']
  omega
theorem unhex_any {s : ByteArray} {w : World} (hs : s.size ≤ 1000000) : Gives Try.prog 20 #[.string s] w (unhexV (unhexL s.data.toList)) := by
  refine Gives.of ?_
  by_cases hodd : s.size % 2 = 1
  · have hn : unhexL s.data.toList = none := unhexL_odd (s.size / 2) _ (by rw [size_toList]; omega)
    rw [hn, unhexV]
    have hb : (bits .and .i64 (s.size : Int) 1 != 0) = true := by rw [i64_and1 _ (by omega), hodd]; rfl
    have HO := Lib.hid hodd
    clear hn hodd
    go_enter Try.func20, Try.ntmps20
    go_wp2
    go_ret2
    exact ⟨rfl, by simp⟩
  · obtain ⟨N, hN⟩ : ∃ N, s.size = 2 * N := ⟨s.size / 2, by omega⟩
    have hb : (bits .and .i64 (s.size : Int) 1 != 0) = false := by rw [i64_and1 _ (by omega), hN, Nat.mul_mod_right]; rfl
    have HN := Lib.hid hN
    clear hodd hN
    go_enter Try.func20, Try.ntmps20
    go_wp2
    go_loopw [4, 5, 6, 7, 8, 9] (fun v i _ _ _ _ wr => ∃ (k : Nat) (L : List UInt8), k ≤ N ∧ i = .int .i64 ((2 * k : Nat) : Int) ∧ unhexL s.data.toList = (unhexL (s.data.toList.drop (2 * k))).map (L ++ ·) ∧ L.length = k ∧ wr.ownsRow w.heap.size 5 1 v k (L.map byteV) ∧ Below w.heap.size w wr) (fun _ i _ _ _ _ _ => s.size - (intOf i).toNat)
    case atStart => exact ⟨0, [], by omega, rfl, by simp, rfl, ⟨rfl, .inl ⟨rfl, rfl⟩⟩, by (first | ((repeat (with_reducible first | assumption | exact Below.refl _ _ | (refine below_bw _ ?_ ?_; rotate_left; focus (((repeat (with_reducible first | assumption | exact Nat.le_refl _ | refine BW.le_of ?_ | refine le_alloc ?_ | refine le_drew ?_ | refine le_drewN ?_ | refine le_set ?_ | refine le_plus ?_ | omega | refine le_setA ?_)); done))) | (refine Below.alloc ?_ ?_ _; rotate_left; focus (((repeat (with_reducible first | assumption | exact Nat.le_refl _ | refine BW.le_of ?_ | refine le_alloc ?_ | refine le_drew ?_ | refine le_drewN ?_ | refine le_set ?_ | refine le_plus ?_ | omega | refine le_setA ?_)); done))) | (refine Below.setCell ?_ ?_ _; rotate_left; focus (((repeat (with_reducible first | assumption | exact Nat.le_refl _ | refine BW.le_of ?_ | refine le_alloc ?_ | refine le_drew ?_ | refine le_drewN ?_ | refine le_set ?_ | refine le_plus ?_ | omega | refine le_setA ?_)); done))) | refine Below.drew ?_ | refine below_drewN ?_ _ | (refine below_setCells ?_ ?_ _ _; rotate_left; focus (((repeat (with_reducible first | assumption | exact Nat.le_refl _ | refine BW.le_of ?_ | refine le_alloc ?_ | refine le_drew ?_ | refine le_drewN ?_ | refine le_set ?_ | refine le_plus ?_ | omega | refine le_setA ?_)); done))))); done) | (simp; done) | (repeat (first | assumption | exact Below.refl _ _ | (refine below_bw _ ?_ ?_; rotate_left; focus ((first | omega | (repeat (first | with_reducible assumption | with_reducible exact Nat.le_refl _ | refine BW.le_of ?_ | refine le_alloc ?_ | refine le_drew ?_ | refine le_drewN ?_ | refine le_set ?_ | refine le_plus ?_ | assumption | exact Nat.le_refl _))))) | (refine Below.alloc ?_ ?_ _; rotate_left; focus ((first | omega | (repeat (first | with_reducible assumption | with_reducible exact Nat.le_refl _ | refine BW.le_of ?_ | refine le_alloc ?_ | refine le_drew ?_ | refine le_drewN ?_ | refine le_set ?_ | refine le_plus ?_ | assumption | exact Nat.le_refl _))))) | (refine Below.setCell ?_ ?_ _; rotate_left; focus ((first | omega | (repeat (first | with_reducible assumption | with_reducible exact Nat.le_refl _ | refine BW.le_of ?_ | refine le_alloc ?_ | refine le_drew ?_ | refine le_drewN ?_ | refine le_set ?_ | refine le_plus ?_ | assumption | exact Nat.le_refl _))))) | refine Below.drew ?_ | refine below_drewN ?_ _ | (refine below_setCells ?_ ?_ _ _; rotate_left; focus ((first | omega | (repeat (first | with_reducible assumption | with_reducible exact Nat.le_refl _ | refine BW.le_of ?_ | refine le_alloc ?_ | refine le_drew ?_ | refine le_drewN ?_ | refine le_set ?_ | refine le_plus ?_ | assumption | exact Nat.le_refl _))))))))⟩
    case round =>
      obtain ⟨k, L, hk, rfl, hun, hL, hown, hbel⟩ := hrel
      have HU := Lib.hid hun
      have HL := Lib.hid hL
      have hsz := hbel.size
      by_cases hlt : 2 * k < s.size
      · have hlt2 : 2 * k + 1 < s.size := by have := HN.out; omega
        have HO := Lib.hid hown
        have HS := Lib.hid (unhexL_step (getElem_toList s (2 * k) hlt) (getElem_toList s (2 * k + 1) hlt2))
        have hb1 := s[2 * k].toNat_lt
        have hb2 := s[2 * k + 1].toNat_lt
        have hd1 := digN_lt s[2 * k].toNat
        have hd2 := digN_lt s[2 * k + 1].toNat
        clear hun hL hown
        obtain ⟨wo, rfl⟩ : ∃ wo : World, wo = wr := ⟨_, rfl⟩
        cases h1 : digOk s[2 * k].toNat
        · have hr : unhexL s.data.toList = none := by rw [HU.out, HS.out, h1]; rfl
          have HR := Lib.hid hr
          clear hr
          go_wp2_with ((with_reducible (first | apply Gives.call_bw (Nat.le_refl _) | apply Gives.call)); (focus (first | (with_reducible exact digit_any (by omega)))); intro x; (try dsimp only [drew_heap] at x))
          go_ret2
          exact ⟨by rw [HR.out]; rfl, by (first | ((repeat (with_reducible first | assumption | exact Below.refl _ _ | (refine below_bw _ ?_ ?_; rotate_left; focus (((repeat (with_reducible first | assumption | exact Nat.le_refl _ | refine BW.le_of ?_ | refine le_alloc ?_ | refine le_drew ?_ | refine le_drewN ?_ | refine le_set ?_ | refine le_plus ?_ | omega | refine le_setA ?_)); done))) | (refine Below.alloc ?_ ?_ _; rotate_left; focus (((repeat (with_reducible first | assumption | exact Nat.le_refl _ | refine BW.le_of ?_ | refine le_alloc ?_ | refine le_drew ?_ | refine le_drewN ?_ | refine le_set ?_ | refine le_plus ?_ | omega | refine le_setA ?_)); done))) | (refine Below.setCell ?_ ?_ _; rotate_left; focus (((repeat (with_reducible first | assumption | exact Nat.le_refl _ | refine BW.le_of ?_ | refine le_alloc ?_ | refine le_drew ?_ | refine le_drewN ?_ | refine le_set ?_ | refine le_plus ?_ | omega | refine le_setA ?_)); done))) | refine Below.drew ?_ | refine below_drewN ?_ _ | (refine below_setCells ?_ ?_ _ _; rotate_left; focus (((repeat (with_reducible first | assumption | exact Nat.le_refl _ | refine BW.le_of ?_ | refine le_alloc ?_ | refine le_drew ?_ | refine le_drewN ?_ | refine le_set ?_ | refine le_plus ?_ | omega | refine le_setA ?_)); done))))); done) | (simp; done) | (repeat (first | assumption | exact Below.refl _ _ | (refine below_bw _ ?_ ?_; rotate_left; focus ((first | omega | (repeat (first | with_reducible assumption | with_reducible exact Nat.le_refl _ | refine BW.le_of ?_ | refine le_alloc ?_ | refine le_drew ?_ | refine le_drewN ?_ | refine le_set ?_ | refine le_plus ?_ | assumption | exact Nat.le_refl _))))) | (refine Below.alloc ?_ ?_ _; rotate_left; focus ((first | omega | (repeat (first | with_reducible assumption | with_reducible exact Nat.le_refl _ | refine BW.le_of ?_ | refine le_alloc ?_ | refine le_drew ?_ | refine le_drewN ?_ | refine le_set ?_ | refine le_plus ?_ | assumption | exact Nat.le_refl _))))) | (refine Below.setCell ?_ ?_ _; rotate_left; focus ((first | omega | (repeat (first | with_reducible assumption | with_reducible exact Nat.le_refl _ | refine BW.le_of ?_ | refine le_alloc ?_ | refine le_drew ?_ | refine le_drewN ?_ | refine le_set ?_ | refine le_plus ?_ | assumption | exact Nat.le_refl _))))) | refine Below.drew ?_ | refine below_drewN ?_ _ | (refine below_setCells ?_ ?_ _ _; rotate_left; focus ((first | omega | (repeat (first | with_reducible assumption | with_reducible exact Nat.le_refl _ | refine BW.le_of ?_ | refine le_alloc ?_ | refine le_drew ?_ | refine le_drewN ?_ | refine le_set ?_ | refine le_plus ?_ | assumption | exact Nat.le_refl _))))))))⟩
        cases h2 : digOk s[2 * k + 1].toNat
        · have hr : unhexL s.data.toList = none := by rw [HU.out, HS.out, h1, h2]; rfl
          have HR := Lib.hid hr
          clear hr
          go_wp2_with ((with_reducible (first | apply Gives.call_bw (Nat.le_refl _) | apply Gives.call)); (focus (first | (with_reducible exact digit_any (by omega)))); intro x; (try dsimp only [drew_heap] at x))
          go_ret2
          exact ⟨by rw [HR.out]; rfl, by (first | ((repeat (with_reducible first | assumption | exact Below.refl _ _ | (refine below_bw _ ?_ ?_; rotate_left; focus (((repeat (with_reducible first | assumption | exact Nat.le_refl _ | refine BW.le_of ?_ | refine le_alloc ?_ | refine le_drew ?_ | refine le_drewN ?_ | refine le_set ?_ | refine le_plus ?_ | omega | refine le_setA ?_)); done))) | (refine Below.alloc ?_ ?_ _; rotate_left; focus (((repeat (with_reducible first | assumption | exact Nat.le_refl _ | refine BW.le_of ?_ | refine le_alloc ?_ | refine le_drew ?_ | refine le_drewN ?_ | refine le_set ?_ | refine le_plus ?_ | omega | refine le_setA ?_)); done))) | (refine Below.setCell ?_ ?_ _; rotate_left; focus (((repeat (with_reducible first | assumption | exact Nat.le_refl _ | refine BW.le_of ?_ | refine le_alloc ?_ | refine le_drew ?_ | refine le_drewN ?_ | refine le_set ?_ | refine le_plus ?_ | omega | refine le_setA ?_)); done))) | refine Below.drew ?_ | refine below_drewN ?_ _ | (refine below_setCells ?_ ?_ _ _; rotate_left; focus (((repeat (with_reducible first | assumption | exact Nat.le_refl _ | refine BW.le_of ?_ | refine le_alloc ?_ | refine le_drew ?_ | refine le_drewN ?_ | refine le_set ?_ | refine le_plus ?_ | omega | refine le_setA ?_)); done))))); done) | (simp; done) | (repeat (first | assumption | exact Below.refl _ _ | (refine below_bw _ ?_ ?_; rotate_left; focus ((first | omega | (repeat (first | with_reducible assumption | with_reducible exact Nat.le_refl _ | refine BW.le_of ?_ | refine le_alloc ?_ | refine le_drew ?_ | refine le_drewN ?_ | refine le_set ?_ | refine le_plus ?_ | assumption | exact Nat.le_refl _))))) | (refine Below.alloc ?_ ?_ _; rotate_left; focus ((first | omega | (repeat (first | with_reducible assumption | with_reducible exact Nat.le_refl _ | refine BW.le_of ?_ | refine le_alloc ?_ | refine le_drew ?_ | refine le_drewN ?_ | refine le_set ?_ | refine le_plus ?_ | assumption | exact Nat.le_refl _))))) | (refine Below.setCell ?_ ?_ _; rotate_left; focus ((first | omega | (repeat (first | with_reducible assumption | with_reducible exact Nat.le_refl _ | refine BW.le_of ?_ | refine le_alloc ?_ | refine le_drew ?_ | refine le_drewN ?_ | refine le_set ?_ | refine le_plus ?_ | assumption | exact Nat.le_refl _))))) | refine Below.drew ?_ | refine below_drewN ?_ _ | (refine below_setCells ?_ ?_ _ _; rotate_left; focus ((first | omega | (repeat (first | with_reducible assumption | with_reducible exact Nat.le_refl _ | refine BW.le_of ?_ | refine le_alloc ?_ | refine le_drew ?_ | refine le_drewN ?_ | refine le_set ?_ | refine le_plus ?_ | assumption | exact Nat.le_refl _))))))))⟩
        · go_wp2_with (first | (at_builtin; refine wpList_app1 elemU8 rfl _ _ rfl rfl rfl (own_below HO.out (below_bw _ (Below.refl _ _) (Nat.le_refl _))) rfl (by omega) (by simp only [maxLen]; omega) (Nat.le_trans hsz (below_bw _ (Below.refl _ _) (Nat.le_refl _)).size) ?_; intro v1 w1 hown1 hbel1; have hb1 := hbel.trans (((below_bw _ (Below.refl _ _) (Nat.le_refl _)).mono hsz).trans hbel1)) | ((with_reducible (first | apply Gives.call_bw (Nat.le_refl _) | apply Gives.call)); (focus (first | (with_reducible exact digit_any (by omega)))); intro x; (try dsimp only [drew_heap] at x)))
          refine ⟨⟨k + 1, L ++ [UInt8.ofNat (16 * digN s[2 * k].toNat + digN s[2 * k + 1].toNat)], by have := HN.out; omega, by rw [show (((2 * (k + 1) : Nat)) : Int) = 2 * (k : Int) + 2 by omega], ?_, by simp [HL.out], ?_, hb1⟩, by simp [intOf]; omega⟩
          · rw [HU.out, HS.out, h1, h2, show 2 * (k + 1) = 2 * k + 2 by omega]
            cases unhexL (s.data.toList.drop (2 * k + 2)) <;> simp
          · rw [shl4or h1 h2] at hown1
            simpa [byteV] using hown1
      · obtain rfl : k = N := by have := HN.out; omega
        have hr : unhexL s.data.toList = some L := by rw [hun, List.drop_of_length_le (by rw [size_toList]; omega)]; simp [unhexL]
        have HR := Lib.hid hr
        have hconv := run_str_own (P := Try.prog) (w := wr) (dst := 9) Try.underlying58 Try.underlying5 Try.underlying9 hown
        clear hown hr hun hL
        go_wp2
        go_ret2
        exact ⟨by rw [HR.out]; rfl, hbel⟩
/-- a sign's number, or below 0 -/
def digI (b : Nat) : Int := if digOk b then (digN b : Int) else -1
def digM (b n : Nat) : Prop := (b : Int) = ((sign n).toNat : Int) ∨ 9 < n ∧ (b : Int) = ((sign n).toNat : Int) - 32
theorem digM_iff {b n : Nat} (hn : n < 16) : digM b n ↔ digOk b = true ∧ digN b = n := by
  have hc : n = 0 ∨ n = 1 ∨ n = 2 ∨ n = 3 ∨ n = 4 ∨ n = 5 ∨ n = 6 ∨ n = 7 ∨ n = 8 ∨ n = 9 ∨ n = 10 ∨ n = 11 ∨ n = 12 ∨ n = 13 ∨ n = 14 ∨ n = 15 := by omega
  have hv : ∀ n, n < 10 → (sign n).toNat = 48 + n := by decide
  have hv2 : ∀ n, n < 16 → 10 ≤ n → (sign n).toNat = 87 + n := by decide
  unfold digM digN
  simp only [digOk, Bool.or_eq_true, decide_eq_true_eq]
  by_cases h10 : n < 10
  · rw [hv n h10]; clear hv hv2 hc; repeat' split
    all_goals omega
  · rw [hv2 n hn (by omega)]; clear hv hv2 hc; repeat' split
    all_goals omega
theorem sign_hi : ∀ n, n < 16 → 9 < n → 97 ≤ (sign n).toNat := by decide
theorem rdigit_any {b : Nat} {w : World} (hb : b < 256) : Gives Try.prog 39 #[.int .u8 b] w (.int .i64 (digI b)) := by
  refine Gives.of ?_
  go_enter Try.func39, Try.ntmps39
  go_wp2
  go_loopw [3, 4] (fun i _ wr => ∃ n : Nat, n ≤ 16 ∧ i = .int .i64 n ∧ (∀ m, m < n → ¬ digM b m) ∧ ∃ y : BW w.heap.size w, wr = y.w) (fun i _ _ => 16 - (intOf i).toNat)
  case atStart => exact ⟨0, by omega, rfl, fun m hm => by omega, BW.mk (Below.refl _ _), rfl⟩
  case round =>
    obtain ⟨n, hn, rfl, hno, y, rfl⟩ := hrel
    have HNO := Lib.hid hno
    clear hno
    by_cases hlt : n < 16
    · have hs1 : ∀ w, Gives Try.prog 40 #[.int .u8 (n : Int)] w (.string (str [sign n])) := fun w => rsign_any rfl hlt
      have hx := (sign n).toNat_lt
      have hidx : ∀ W : World, (Instr.index 9 (.string (str [sign n])) (.int .i64 0)).run Try.prog W = .ok (.int .u8 ((sign n).toNat : Int)) W := fun W => rfl
      have HM := Lib.hid (digM_iff (b := b) hlt)
      by_cases h9 : 9 < n
      · have h97 := sign_hi n hlt h9
        go_wp2_with ((with_reducible (first | apply Gives.call_bw (Nat.le_refl _) | apply Gives.call)); (focus (first | (with_reducible exact hs1 _))); intro x; (try dsimp only [drew_heap] at x))
        all_goals first
          | (have hm : digM b n := by first | exact .inl (by assumption) | exact .inr ⟨by omega, by simpa using ‹((b : Int) == ((sign n).toNat : Int) - 32) = true›⟩
             obtain ⟨ok, dn⟩ := HM.out.1 hm
             go_ret
             exact ⟨by simp [digI, ok, dn], by (first | ((repeat (with_reducible first | assumption | exact Below.refl _ _ | (refine below_bw _ ?_ ?_; rotate_left; focus (((repeat (with_reducible first | assumption | exact Nat.le_refl _ | refine BW.le_of ?_ | refine le_alloc ?_ | refine le_drew ?_ | refine le_drewN ?_ | refine le_set ?_ | refine le_plus ?_ | omega | refine le_setA ?_)); done))) | (refine Below.alloc ?_ ?_ _; rotate_left; focus (((repeat (with_reducible first | assumption | exact Nat.le_refl _ | refine BW.le_of ?_ | refine le_alloc ?_ | refine le_drew ?_ | refine le_drewN ?_ | refine le_set ?_ | refine le_plus ?_ | omega | refine le_setA ?_)); done))) | (refine Below.setCell ?_ ?_ _; rotate_left; focus (((repeat (with_reducible first | assumption | exact Nat.le_refl _ | refine BW.le_of ?_ | refine le_alloc ?_ | refine le_drew ?_ | refine le_drewN ?_ | refine le_set ?_ | refine le_plus ?_ | omega | refine le_setA ?_)); done))) | refine Below.drew ?_ | refine below_drewN ?_ _ | (refine below_setCells ?_ ?_ _ _; rotate_left; focus (((repeat (with_reducible first | assumption | exact Nat.le_refl _ | refine BW.le_of ?_ | refine le_alloc ?_ | refine le_drew ?_ | refine le_drewN ?_ | refine le_set ?_ | refine le_plus ?_ | omega | refine le_setA ?_)); done))))); done) | (simp; done) | (repeat (first | assumption | exact Below.refl _ _ | (refine below_bw _ ?_ ?_; rotate_left; focus ((first | omega | (repeat (first | with_reducible assumption | with_reducible exact Nat.le_refl _ | refine BW.le_of ?_ | refine le_alloc ?_ | refine le_drew ?_ | refine le_drewN ?_ | refine le_set ?_ | refine le_plus ?_ | assumption | exact Nat.le_refl _))))) | (refine Below.alloc ?_ ?_ _; rotate_left; focus ((first | omega | (repeat (first | with_reducible assumption | with_reducible exact Nat.le_refl _ | refine BW.le_of ?_ | refine le_alloc ?_ | refine le_drew ?_ | refine le_drewN ?_ | refine le_set ?_ | refine le_plus ?_ | assumption | exact Nat.le_refl _))))) | (refine Below.setCell ?_ ?_ _; rotate_left; focus ((first | omega | (repeat (first | with_reducible assumption | with_reducible exact Nat.le_refl _ | refine BW.le_of ?_ | refine le_alloc ?_ | refine le_drew ?_ | refine le_drewN ?_ | refine le_set ?_ | refine le_plus ?_ | assumption | exact Nat.le_refl _))))) | refine Below.drew ?_ | refine below_drewN ?_ _ | (refine below_setCells ?_ ?_ _ _; rotate_left; focus ((first | omega | (repeat (first | with_reducible assumption | with_reducible exact Nat.le_refl _ | refine BW.le_of ?_ | refine le_alloc ?_ | refine le_drew ?_ | refine le_drewN ?_ | refine le_set ?_ | refine le_plus ?_ | assumption | exact Nat.le_refl _))))))))⟩)
          | (refine ⟨⟨n + 1, by omega, by go_num, fun m hm => ?_, _, rfl⟩, by simp [intOf]; omega⟩
             rcases Nat.lt_or_ge m n with h | h
             · exact HNO.out m h
             · obtain rfl : m = n := by omega
               rintro (h1 | ⟨h1, h2⟩)
               · omega
               · first | omega | simp_all)
      · go_wp2_with ((with_reducible (first | apply Gives.call_bw (Nat.le_refl _) | apply Gives.call)); (focus (first | (with_reducible exact hs1 _))); intro x; (try dsimp only [drew_heap] at x))
        all_goals first
          | (have hm : digM b n := by first | exact .inl (by assumption) | exact .inr ⟨by omega, by simpa using ‹((b : Int) == ((sign n).toNat : Int) - 32) = true›⟩
             obtain ⟨ok, dn⟩ := HM.out.1 hm
             go_ret
             exact ⟨by simp [digI, ok, dn], by (first | ((repeat (with_reducible first | assumption | exact Below.refl _ _ | (refine below_bw _ ?_ ?_; rotate_left; focus (((repeat (with_reducible first | assumption | exact Nat.le_refl _ | refine BW.le_of ?_ | refine le_alloc ?_ | refine le_drew ?_ | refine le_drewN ?_ | refine le_set ?_ | refine le_plus ?_ | omega | refine le_setA ?_)); done))) | (refine Below.alloc ?_ ?_ _; rotate_left; focus (((repeat (with_reducible first | assumption | exact Nat.le_refl _ | refine BW.le_of ?_ | refine le_alloc ?_ | refine le_drew ?_ | refine le_drewN ?_ | refine le_set ?_ | refine le_plus ?_ | omega | refine le_setA ?_)); done))) | (refine Below.setCell ?_ ?_ _; rotate_left; focus (((repeat (with_reducible first | assumption | exact Nat.le_refl _ | refine BW.le_of ?_ | refine le_alloc ?_ | refine le_drew ?_ | refine le_drewN ?_ | refine le_set ?_ | refine le_plus ?_ | omega | refine le_setA ?_)); done))) | refine Below.drew ?_ | refine below_drewN ?_ _ | (refine below_setCells ?_ ?_ _ _; rotate_left; focus (((repeat (with_reducible first | assumption | exact Nat.le_refl _ | refine BW.le_of ?_ | refine le_alloc ?_ | refine le_drew ?_ | refine le_drewN ?_ | refine le_set ?_ | refine le_plus ?_ | omega | refine le_setA ?_)); done))))); done) | (simp; done) | (repeat (first | assumption | exact Below.refl _ _ | (refine below_bw _ ?_ ?_; rotate_left; focus ((first | omega | (repeat (first | with_reducible assumption | with_reducible exact Nat.le_refl _ | refine BW.le_of ?_ | refine le_alloc ?_ | refine le_drew ?_ | refine le_drewN ?_ | refine le_set ?_ | refine le_plus ?_ | assumption | exact Nat.le_refl _))))) | (refine Below.alloc ?_ ?_ _; rotate_left; focus ((first | omega | (repeat (first | with_reducible assumption | with_reducible exact Nat.le_refl _ | refine BW.le_of ?_ | refine le_alloc ?_ | refine le_drew ?_ | refine le_drewN ?_ | refine le_set ?_ | refine le_plus ?_ | assumption | exact Nat.le_refl _))))) | (refine Below.setCell ?_ ?_ _; rotate_left; focus ((first | omega | (repeat (first | with_reducible assumption | with_reducible exact Nat.le_refl _ | refine BW.le_of ?_ | refine le_alloc ?_ | refine le_drew ?_ | refine le_drewN ?_ | refine le_set ?_ | refine le_plus ?_ | assumption | exact Nat.le_refl _))))) | refine Below.drew ?_ | refine below_drewN ?_ _ | (refine below_setCells ?_ ?_ _ _; rotate_left; focus ((first | omega | (repeat (first | with_reducible assumption | with_reducible exact Nat.le_refl _ | refine BW.le_of ?_ | refine le_alloc ?_ | refine le_drew ?_ | refine le_drewN ?_ | refine le_set ?_ | refine le_plus ?_ | assumption | exact Nat.le_refl _))))))))⟩)
          | (refine ⟨⟨n + 1, by omega, by go_num, fun m hm => ?_, _, rfl⟩, by simp [intOf]; omega⟩
             rcases Nat.lt_or_ge m n with h | h
             · exact HNO.out m h
             · obtain rfl : m = n := by omega
               rintro (h1 | ⟨h1, h2⟩)
               · omega
               · first | omega | simp_all)
    · have hok : digOk b = false := by
        cases h : digOk b
        · rfl
        · exact absurd ((digM_iff (b := b) (digN_lt b)).2 ⟨h, rfl⟩) (HNO.out _ (by have := digN_lt b; omega))
      have HK := Lib.hid hok
      clear hok
      go_wp2
      go_ret
      exact ⟨by simp [digI, HK.out], by (first | ((repeat (with_reducible first | assumption | exact Below.refl _ _ | (refine below_bw _ ?_ ?_; rotate_left; focus (((repeat (with_reducible first | assumption | exact Nat.le_refl _ | refine BW.le_of ?_ | refine le_alloc ?_ | refine le_drew ?_ | refine le_drewN ?_ | refine le_set ?_ | refine le_plus ?_ | omega | refine le_setA ?_)); done))) | (refine Below.alloc ?_ ?_ _; rotate_left; focus (((repeat (with_reducible first | assumption | exact Nat.le_refl _ | refine BW.le_of ?_ | refine le_alloc ?_ | refine le_drew ?_ | refine le_drewN ?_ | refine le_set ?_ | refine le_plus ?_ | omega | refine le_setA ?_)); done))) | (refine Below.setCell ?_ ?_ _; rotate_left; focus (((repeat (with_reducible first | assumption | exact Nat.le_refl _ | refine BW.le_of ?_ | refine le_alloc ?_ | refine le_drew ?_ | refine le_drewN ?_ | refine le_set ?_ | refine le_plus ?_ | omega | refine le_setA ?_)); done))) | refine Below.drew ?_ | refine below_drewN ?_ _ | (refine below_setCells ?_ ?_ _ _; rotate_left; focus (((repeat (with_reducible first | assumption | exact Nat.le_refl _ | refine BW.le_of ?_ | refine le_alloc ?_ | refine le_drew ?_ | refine le_drewN ?_ | refine le_set ?_ | refine le_plus ?_ | omega | refine le_setA ?_)); done))))); done) | (simp; done) | (repeat (first | assumption | exact Below.refl _ _ | (refine below_bw _ ?_ ?_; rotate_left; focus ((first | omega | (repeat (first | with_reducible assumption | with_reducible exact Nat.le_refl _ | refine BW.le_of ?_ | refine le_alloc ?_ | refine le_drew ?_ | refine le_drewN ?_ | refine le_set ?_ | refine le_plus ?_ | assumption | exact Nat.le_refl _))))) | (refine Below.alloc ?_ ?_ _; rotate_left; focus ((first | omega | (repeat (first | with_reducible assumption | with_reducible exact Nat.le_refl _ | refine BW.le_of ?_ | refine le_alloc ?_ | refine le_drew ?_ | refine le_drewN ?_ | refine le_set ?_ | refine le_plus ?_ | assumption | exact Nat.le_refl _))))) | (refine Below.setCell ?_ ?_ _; rotate_left; focus ((first | omega | (repeat (first | with_reducible assumption | with_reducible exact Nat.le_refl _ | refine BW.le_of ?_ | refine le_alloc ?_ | refine le_drew ?_ | refine le_drewN ?_ | refine le_set ?_ | refine le_plus ?_ | assumption | exact Nat.le_refl _))))) | refine Below.drew ?_ | refine below_drewN ?_ _ | (refine below_setCells ?_ ?_ _ _; rotate_left; focus ((first | omega | (repeat (first | with_reducible assumption | with_reducible exact Nat.le_refl _ | refine BW.le_of ?_ | refine le_alloc ?_ | refine le_drew ?_ | refine le_drewN ?_ | refine le_set ?_ | refine le_plus ?_ | assumption | exact Nat.le_refl _))))))))⟩
def runhexV : Option (List UInt8) → Value
  | some l => .tuple #[.string (str l), .bool true]
  | none => .tuple #[.string ⟨#[]⟩, .bool false]
theorem digI_lt (b : Nat) : digI b < 16 := by have := digN_lt b; unfold digI; split <;> omega
theorem digI_ge (b : Nat) : -1 ≤ digI b := by unfold digI; split <;> omega
theorem digI_yes {b : Nat} (h : digOk b = true) : digI b = (digN b : Int) := by simp [digI, h]
theorem digI_no {b : Nat} (h : digOk b = false) : digI b = -1 := by simp [digI, h]
theorem mul16add (a b : Nat) : (16 * (digN a : Int) + (digN b : Int)) = ((UInt8.ofNat (16 * digN a + digN b)).toNat : Int) := by
  have h1 := digN_lt a
  have h2 := digN_lt b
  rw [UInt8.toNat_ofNat']
  omega
theorem runhex_any {s : ByteArray} {w : World} (hs : s.size ≤ 1000000) : Gives Try.prog 22 #[.string s] w (runhexV (unhexL s.data.toList)) := by
  refine Gives.of ?_
  by_cases hodd : s.size % 2 = 1
  · have hn : unhexL s.data.toList = none := unhexL_odd (s.size / 2) _ (by rw [size_toList]; omega)
    rw [hn, runhexV]
    have hb : (((s.size : Int) % 2) == 1) = true := by rw [show (s.size : Int) % 2 = 1 by omega]; rfl
    have HO := Lib.hid hodd
    clear hn hodd
    go_enter Try.func22, Try.ntmps22
    go_wp2
    go_ret2
    exact ⟨rfl, by (first | ((repeat (with_reducible first | assumption | exact Below.refl _ _ | (refine below_bw _ ?_ ?_; rotate_left; focus (((repeat (with_reducible first | assumption | exact Nat.le_refl _ | refine BW.le_of ?_ | refine le_alloc ?_ | refine le_drew ?_ | refine le_drewN ?_ | refine le_set ?_ | refine le_plus ?_ | omega | refine le_setA ?_)); done))) | (refine Below.alloc ?_ ?_ _; rotate_left; focus (((repeat (with_reducible first | assumption | exact Nat.le_refl _ | refine BW.le_of ?_ | refine le_alloc ?_ | refine le_drew ?_ | refine le_drewN ?_ | refine le_set ?_ | refine le_plus ?_ | omega | refine le_setA ?_)); done))) | (refine Below.setCell ?_ ?_ _; rotate_left; focus (((repeat (with_reducible first | assumption | exact Nat.le_refl _ | refine BW.le_of ?_ | refine le_alloc ?_ | refine le_drew ?_ | refine le_drewN ?_ | refine le_set ?_ | refine le_plus ?_ | omega | refine le_setA ?_)); done))) | refine Below.drew ?_ | refine below_drewN ?_ _ | (refine below_setCells ?_ ?_ _ _; rotate_left; focus (((repeat (with_reducible first | assumption | exact Nat.le_refl _ | refine BW.le_of ?_ | refine le_alloc ?_ | refine le_drew ?_ | refine le_drewN ?_ | refine le_set ?_ | refine le_plus ?_ | omega | refine le_setA ?_)); done))))); done) | (simp; done) | (repeat (first | assumption | exact Below.refl _ _ | (refine below_bw _ ?_ ?_; rotate_left; focus ((first | omega | (repeat (first | with_reducible assumption | with_reducible exact Nat.le_refl _ | refine BW.le_of ?_ | refine le_alloc ?_ | refine le_drew ?_ | refine le_drewN ?_ | refine le_set ?_ | refine le_plus ?_ | assumption | exact Nat.le_refl _))))) | (refine Below.alloc ?_ ?_ _; rotate_left; focus ((first | omega | (repeat (first | with_reducible assumption | with_reducible exact Nat.le_refl _ | refine BW.le_of ?_ | refine le_alloc ?_ | refine le_drew ?_ | refine le_drewN ?_ | refine le_set ?_ | refine le_plus ?_ | assumption | exact Nat.le_refl _))))) | (refine Below.setCell ?_ ?_ _; rotate_left; focus ((first | omega | (repeat (first | with_reducible assumption | with_reducible exact Nat.le_refl _ | refine BW.le_of ?_ | refine le_alloc ?_ | refine le_drew ?_ | refine le_drewN ?_ | refine le_set ?_ | refine le_plus ?_ | assumption | exact Nat.le_refl _))))) | refine Below.drew ?_ | refine below_drewN ?_ _ | (refine below_setCells ?_ ?_ _ _; rotate_left; focus ((first | omega | (repeat (first | with_reducible assumption | with_reducible exact Nat.le_refl _ | refine BW.le_of ?_ | refine le_alloc ?_ | refine le_drew ?_ | refine le_drewN ?_ | refine le_set ?_ | refine le_plus ?_ | assumption | exact Nat.le_refl _))))))))⟩
  · obtain ⟨N, hN⟩ : ∃ N, s.size = 2 * N := ⟨s.size / 2, by omega⟩
    have hb : (((s.size : Int) % 2) == 1) = false := by rw [hN]; simp
    have HN := Lib.hid hN
    clear hodd hN
    go_enter Try.func22, Try.ntmps22
    go_wp2
    go_loopw [4, 5, 6, 7] (fun v i _ _ wr => ∃ (k : Nat) (L : List UInt8), k ≤ N ∧ i = .int .i64 (2 * (k : Int)) ∧ unhexL s.data.toList = (unhexL (s.data.toList.drop (2 * k))).map (L ++ ·) ∧ L.length = k ∧ wr.ownsRow w.heap.size 5 1 v k (L.map byteV) ∧ Below w.heap.size w wr) (fun _ i _ _ _ => s.size - (intOf i).toNat)
    case atStart => exact ⟨0, [], by omega, rfl, by simp, rfl, ⟨rfl, .inr ⟨w.heap.size, 0, #[], rfl, Nat.le_refl _, Row.new w 5 #[], Nat.le_refl _, by simp, rfl, rfl⟩⟩, by (first | ((repeat (with_reducible first | assumption | exact Below.refl _ _ | (refine below_bw _ ?_ ?_; rotate_left; focus (((repeat (with_reducible first | assumption | exact Nat.le_refl _ | refine BW.le_of ?_ | refine le_alloc ?_ | refine le_drew ?_ | refine le_drewN ?_ | refine le_set ?_ | refine le_plus ?_ | omega | refine le_setA ?_)); done))) | (refine Below.alloc ?_ ?_ _; rotate_left; focus (((repeat (with_reducible first | assumption | exact Nat.le_refl _ | refine BW.le_of ?_ | refine le_alloc ?_ | refine le_drew ?_ | refine le_drewN ?_ | refine le_set ?_ | refine le_plus ?_ | omega | refine le_setA ?_)); done))) | (refine Below.setCell ?_ ?_ _; rotate_left; focus (((repeat (with_reducible first | assumption | exact Nat.le_refl _ | refine BW.le_of ?_ | refine le_alloc ?_ | refine le_drew ?_ | refine le_drewN ?_ | refine le_set ?_ | refine le_plus ?_ | omega | refine le_setA ?_)); done))) | refine Below.drew ?_ | refine below_drewN ?_ _ | (refine below_setCells ?_ ?_ _ _; rotate_left; focus (((repeat (with_reducible first | assumption | exact Nat.le_refl _ | refine BW.le_of ?_ | refine le_alloc ?_ | refine le_drew ?_ | refine le_drewN ?_ | refine le_set ?_ | refine le_plus ?_ | omega | refine le_setA ?_)); done))))); done) | (simp; done) | (repeat (first | assumption | exact Below.refl _ _ | (refine below_bw _ ?_ ?_; rotate_left; focus ((first | omega | (repeat (first | with_reducible assumption | with_reducible exact Nat.le_refl _ | refine BW.le_of ?_ | refine le_alloc ?_ | refine le_drew ?_ | refine le_drewN ?_ | refine le_set ?_ | refine le_plus ?_ | assumption | exact Nat.le_refl _))))) | (refine Below.alloc ?_ ?_ _; rotate_left; focus ((first | omega | (repeat (first | with_reducible assumption | with_reducible exact Nat.le_refl _ | refine BW.le_of ?_ | refine le_alloc ?_ | refine le_drew ?_ | refine le_drewN ?_ | refine le_set ?_ | refine le_plus ?_ | assumption | exact Nat.le_refl _))))) | (refine Below.setCell ?_ ?_ _; rotate_left; focus ((first | omega | (repeat (first | with_reducible assumption | with_reducible exact Nat.le_refl _ | refine BW.le_of ?_ | refine le_alloc ?_ | refine le_drew ?_ | refine le_drewN ?_ | refine le_set ?_ | refine le_plus ?_ | assumption | exact Nat.le_refl _))))) | refine Below.drew ?_ | refine below_drewN ?_ _ | (refine below_setCells ?_ ?_ _ _; rotate_left; focus ((first | omega | (repeat (first | with_reducible assumption | with_reducible exact Nat.le_refl _ | refine BW.le_of ?_ | refine le_alloc ?_ | refine le_drew ?_ | refine le_drewN ?_ | refine le_set ?_ | refine le_plus ?_ | assumption | exact Nat.le_refl _))))))))⟩
    case round =>
      obtain ⟨k, L, hk, rfl, hun, hL, hown, hbel⟩ := hrel
      have HU := Lib.hid hun
      have HL := Lib.hid hL
      have hsz := hbel.size
      by_cases hlt : 2 * k < s.size
      · have hlt2 : 2 * k + 1 < s.size := by have := HN.out; omega
        have HO := Lib.hid hown
        have HS := Lib.hid (unhexL_step (getElem_toList s (2 * k) hlt) (getElem_toList s (2 * k + 1) hlt2))
        have hd1 := digN_lt s[2 * k].toNat
        have hd2 := digN_lt s[2 * k + 1].toNat
        have ha : ∀ w, Gives Try.prog 39 #[.int .u8 (s[2 * k].toNat : Int)] w (.int .i64 (digI s[2 * k].toNat)) := fun w => rdigit_any s[2 * k].toNat_lt
        have hc : ∀ w, Gives Try.prog 39 #[.int .u8 (s[2 * k + 1].toNat : Int)] w (.int .i64 (digI s[2 * k + 1].toNat)) := fun w => rdigit_any s[2 * k + 1].toNat_lt
        have b1 : (0 : Int) ≤ 2 * (k : Int) := by omega
        have b2 : 2 * (k : Int) < (s.size : Int) := by omega
        have b3 := run_idx (P := Try.prog) Try.underlying9 s (2 * k + 1) hlt2 (2 * (k : Int) + 1) (by omega)
        clear hun hL hown
        obtain ⟨wo, rfl⟩ : ∃ wo : World, wo = wr := ⟨_, rfl⟩
        cases h1 : digOk s[2 * k].toNat
        · have hr : unhexL s.data.toList = none := by rw [HU.out, HS.out, h1]; rfl
          have HR := Lib.hid hr
          rw [digI_no h1] at ha
          have h3 := digI_ge s[2 * k + 1].toNat
          clear hr
          go_wp2_with fail
          ((with_reducible first | refine wp_region_bx (Nat.le_refl _) (by kernel_rfl) (by kernel_rfl) ?_ | refine wp_region_bw (by kernel_rfl) (by kernel_rfl) ?_); (repeat (go_big_quiet_step (((with_reducible apply Gives.bw (Nat.le_refl _)); first | (with_reducible exact ha _) | (with_reducible exact hc _))))); refine wpQuiet_nil ?_; rintro _ ⟨x, rfl⟩)
          go_wp2
          go_ret2
          exact ⟨by rw [HR.out]; rfl, by (first | ((repeat (with_reducible first | assumption | exact Below.refl _ _ | (refine below_bw _ ?_ ?_; rotate_left; focus (((repeat (with_reducible first | assumption | exact Nat.le_refl _ | refine BW.le_of ?_ | refine le_alloc ?_ | refine le_drew ?_ | refine le_drewN ?_ | refine le_set ?_ | refine le_plus ?_ | omega | refine le_setA ?_)); done))) | (refine Below.alloc ?_ ?_ _; rotate_left; focus (((repeat (with_reducible first | assumption | exact Nat.le_refl _ | refine BW.le_of ?_ | refine le_alloc ?_ | refine le_drew ?_ | refine le_drewN ?_ | refine le_set ?_ | refine le_plus ?_ | omega | refine le_setA ?_)); done))) | (refine Below.setCell ?_ ?_ _; rotate_left; focus (((repeat (with_reducible first | assumption | exact Nat.le_refl _ | refine BW.le_of ?_ | refine le_alloc ?_ | refine le_drew ?_ | refine le_drewN ?_ | refine le_set ?_ | refine le_plus ?_ | omega | refine le_setA ?_)); done))) | refine Below.drew ?_ | refine below_drewN ?_ _ | (refine below_setCells ?_ ?_ _ _; rotate_left; focus (((repeat (with_reducible first | assumption | exact Nat.le_refl _ | refine BW.le_of ?_ | refine le_alloc ?_ | refine le_drew ?_ | refine le_drewN ?_ | refine le_set ?_ | refine le_plus ?_ | omega | refine le_setA ?_)); done))))); done) | (simp; done) | (repeat (first | assumption | exact Below.refl _ _ | (refine below_bw _ ?_ ?_; rotate_left; focus ((first | omega | (repeat (first | with_reducible assumption | with_reducible exact Nat.le_refl _ | refine BW.le_of ?_ | refine le_alloc ?_ | refine le_drew ?_ | refine le_drewN ?_ | refine le_set ?_ | refine le_plus ?_ | assumption | exact Nat.le_refl _))))) | (refine Below.alloc ?_ ?_ _; rotate_left; focus ((first | omega | (repeat (first | with_reducible assumption | with_reducible exact Nat.le_refl _ | refine BW.le_of ?_ | refine le_alloc ?_ | refine le_drew ?_ | refine le_drewN ?_ | refine le_set ?_ | refine le_plus ?_ | assumption | exact Nat.le_refl _))))) | (refine Below.setCell ?_ ?_ _; rotate_left; focus ((first | omega | (repeat (first | with_reducible assumption | with_reducible exact Nat.le_refl _ | refine BW.le_of ?_ | refine le_alloc ?_ | refine le_drew ?_ | refine le_drewN ?_ | refine le_set ?_ | refine le_plus ?_ | assumption | exact Nat.le_refl _))))) | refine Below.drew ?_ | refine below_drewN ?_ _ | (refine below_setCells ?_ ?_ _ _; rotate_left; focus ((first | omega | (repeat (first | with_reducible assumption | with_reducible exact Nat.le_refl _ | refine BW.le_of ?_ | refine le_alloc ?_ | refine le_drew ?_ | refine le_drewN ?_ | refine le_set ?_ | refine le_plus ?_ | assumption | exact Nat.le_refl _))))))))⟩
        cases h2 : digOk s[2 * k + 1].toNat
        · have hr : unhexL s.data.toList = none := by rw [HU.out, HS.out, h1, h2]; rfl
          have HR := Lib.hid hr
          rw [digI_yes h1] at ha
          rw [digI_no h2] at hc
          clear hr
          go_wp2_with fail
          ((with_reducible first | refine wp_region_bx (Nat.le_refl _) (by kernel_rfl) (by kernel_rfl) ?_ | refine wp_region_bw (by kernel_rfl) (by kernel_rfl) ?_); (repeat (go_big_quiet_step (((with_reducible apply Gives.bw (Nat.le_refl _)); first | (with_reducible exact ha _) | (with_reducible exact hc _))))); refine wpQuiet_nil ?_; rintro _ ⟨x, rfl⟩)
          go_wp2
          go_ret2
          exact ⟨by rw [HR.out]; rfl, by (first | ((repeat (with_reducible first | assumption | exact Below.refl _ _ | (refine below_bw _ ?_ ?_; rotate_left; focus (((repeat (with_reducible first | assumption | exact Nat.le_refl _ | refine BW.le_of ?_ | refine le_alloc ?_ | refine le_drew ?_ | refine le_drewN ?_ | refine le_set ?_ | refine le_plus ?_ | omega | refine le_setA ?_)); done))) | (refine Below.alloc ?_ ?_ _; rotate_left; focus (((repeat (with_reducible first | assumption | exact Nat.le_refl _ | refine BW.le_of ?_ | refine le_alloc ?_ | refine le_drew ?_ | refine le_drewN ?_ | refine le_set ?_ | refine le_plus ?_ | omega | refine le_setA ?_)); done))) | (refine Below.setCell ?_ ?_ _; rotate_left; focus (((repeat (with_reducible first | assumption | exact Nat.le_refl _ | refine BW.le_of ?_ | refine le_alloc ?_ | refine le_drew ?_ | refine le_drewN ?_ | refine le_set ?_ | refine le_plus ?_ | omega | refine le_setA ?_)); done))) | refine Below.drew ?_ | refine below_drewN ?_ _ | (refine below_setCells ?_ ?_ _ _; rotate_left; focus (((repeat (with_reducible first | assumption | exact Nat.le_refl _ | refine BW.le_of ?_ | refine le_alloc ?_ | refine le_drew ?_ | refine le_drewN ?_ | refine le_set ?_ | refine le_plus ?_ | omega | refine le_setA ?_)); done))))); done) | (simp; done) | (repeat (first | assumption | exact Below.refl _ _ | (refine below_bw _ ?_ ?_; rotate_left; focus ((first | omega | (repeat (first | with_reducible assumption | with_reducible exact Nat.le_refl _ | refine BW.le_of ?_ | refine le_alloc ?_ | refine le_drew ?_ | refine le_drewN ?_ | refine le_set ?_ | refine le_plus ?_ | assumption | exact Nat.le_refl _))))) | (refine Below.alloc ?_ ?_ _; rotate_left; focus ((first | omega | (repeat (first | with_reducible assumption | with_reducible exact Nat.le_refl _ | refine BW.le_of ?_ | refine le_alloc ?_ | refine le_drew ?_ | refine le_drewN ?_ | refine le_set ?_ | refine le_plus ?_ | assumption | exact Nat.le_refl _))))) | (refine Below.setCell ?_ ?_ _; rotate_left; focus ((first | omega | (repeat (first | with_reducible assumption | with_reducible exact Nat.le_refl _ | refine BW.le_of ?_ | refine le_alloc ?_ | refine le_drew ?_ | refine le_drewN ?_ | refine le_set ?_ | refine le_plus ?_ | assumption | exact Nat.le_refl _))))) | refine Below.drew ?_ | refine below_drewN ?_ _ | (refine below_setCells ?_ ?_ _ _; rotate_left; focus ((first | omega | (repeat (first | with_reducible assumption | with_reducible exact Nat.le_refl _ | refine BW.le_of ?_ | refine le_alloc ?_ | refine le_drew ?_ | refine le_drewN ?_ | refine le_set ?_ | refine le_plus ?_ | assumption | exact Nat.le_refl _))))))))⟩
        · rw [digI_yes h1] at ha
          rw [digI_yes h2] at hc
          go_wp2_with fail
          ((with_reducible first | refine wp_region_bx (Nat.le_refl _) (by kernel_rfl) (by kernel_rfl) ?_ | refine wp_region_bw (by kernel_rfl) (by kernel_rfl) ?_); (repeat (go_big_quiet_step (((with_reducible apply Gives.bw (Nat.le_refl _)); first | (with_reducible exact ha _) | (with_reducible exact hc _))))); refine wpQuiet_nil ?_; rintro _ ⟨x, rfl⟩)
          go_wp2_with (first | (at_builtin; refine wpList_app1 elemU8 rfl _ _ rfl rfl rfl (own_below HO.out (below_bw _ (Below.refl _ _) (Nat.le_refl _))) rfl (by omega) (by simp only [maxLen]; omega) (Nat.le_trans hsz (below_bw _ (Below.refl _ _) (Nat.le_refl _)).size) ?_; intro v1 w1 hown1 hbel1; have hb1 := hbel.trans (((below_bw _ (Below.refl _ _) (Nat.le_refl _)).mono hsz).trans hbel1)))
          refine ⟨⟨k + 1, L ++ [UInt8.ofNat (16 * digN s[2 * k].toNat + digN s[2 * k + 1].toNat)], by have := HN.out; omega, by rw [show (2 * ((k + 1 : Nat) : Int)) = 2 * (k : Int) + 2 by omega], ?_, by simp [HL.out], ?_, hb1⟩, by simp [intOf]; omega⟩
          · rw [HU.out, HS.out, h1, h2, show 2 * (k + 1) = 2 * k + 2 by omega]
            cases unhexL (s.data.toList.drop (2 * k + 2)) <;> simp
          · rw [mul16add] at hown1
            simpa [byteV] using hown1
      · obtain rfl : k = N := by have := HN.out; omega
        have hr : unhexL s.data.toList = some L := by rw [hun, List.drop_of_length_le (by rw [size_toList]; omega)]; simp [unhexL]
        have HR := Lib.hid hr
        have hconv := run_str_own (P := Try.prog) (w := wr) (dst := 9) Try.underlying58 Try.underlying5 Try.underlying9 hown
        clear hown hr hun hL
        go_wp2
        go_ret2
        exact ⟨by rw [HR.out]; rfl, hbel⟩
end Go.Proofs.Ytkkmjlihfnmbbaa
