/-
  Internet checksums: the plain mathematics, and the contracts of package sum and of its reference.
-/
import Derived.Test.YtnobencogihbnaaGreatOct
namespace Go.Proofs.YtnobencogihbnaaGreat
open Go.ChangeShapes Go.WideShapes Go.ChangeAt Go.RowKit
set_option linter.unusedVariables false
set_option linter.unusedSimpArgs false

def foldN (n : Nat) : Nat := if n = 0 then 0 else (n - 1) % 65535 + 1
theorem foldN_small {n : Nat} (h : n ≤ 65535) : foldN n = n := by unfold foldN; split <;> omega
theorem foldN_le (n : Nat) : foldN n ≤ 65535 := by unfold foldN; split <;> omega
theorem foldN_step {n : Nat} (h : 65535 < n) : foldN (n % 65536 + n / 65536) = foldN n := by
  unfold foldN
  rw [if_neg (by omega), if_neg (by omega)]
  omega
theorem foldN_add (a b : Nat) : foldN (foldN a + b) = foldN (a + b) := by
  unfold foldN
  by_cases ha : a = 0
  · subst ha; simp
  · rw [if_neg ha, if_neg (by omega), if_neg (by omega)]
    omega
theorem foldN_zero {n : Nat} : foldN n = 0 ↔ n = 0 := by unfold foldN; split <;> omega
/-- the sum of words, the last one filled up with a nought -/
def wsum : List UInt8 → Nat
  | [] => 0
  | [a] => a.toNat * 256
  | a :: b :: r => a.toNat * 256 + b.toNat + wsum r
theorem wsum_snoc : ∀ (l : List UInt8) (b : UInt8), wsum (l ++ [b]) = wsum l + (if l.length % 2 = 0 then b.toNat * 256 else b.toNat)
  | [], b => by simp [wsum]
  | [a], b => by simp [wsum]
  | a :: c :: r, b => by
    have h := wsum_snoc r b
    rw [List.cons_append, List.cons_append, wsum, wsum, h]
    have e : (a :: c :: r).length % 2 = r.length % 2 := by simp; omega
    rw [e]
    omega
theorem wsum_append {a : List UInt8} (ha : a.length % 2 = 0) (b : List UInt8) : wsum (a ++ b) = wsum a + wsum b := by
  match a with
  | [] => simp [wsum]
  | [x] => simp at ha
  | x :: y :: r =>
    rw [List.cons_append, List.cons_append, wsum, wsum, wsum_append (by simp at ha; omega) b]
    omega
theorem wsum_le : ∀ l : List UInt8, wsum l ≤ 65535 * l.length
  | [] => by simp [wsum]
  | [a] => by have := a.toNat_lt; simp [wsum]; omega
  | a :: b :: r => by
    have h := wsum_le r
    have h1 := a.toNat_lt
    have h2 := b.toNat_lt
    rw [wsum]
    simp only [List.length_cons]
    omega
theorem wsum_two (l : List UInt8) (h : l.length = 2) : wsum l = numL l := by
  match l, h with
  | [a, b], _ => simp [wsum, numL]
theorem wsum_zero_pad (l : List UInt8) : wsum (l ++ [0]) = wsum l := by rw [wsum_snoc]; simp
def flat (ss : List ByteArray) : List UInt8 := ss.flatMap (fun s => s.data.toList)
theorem flat_snoc (ss : List ByteArray) (s : ByteArray) : flat (ss ++ [s]) = flat ss ++ s.data.toList := by simp [flat]

theorem fold_any {n : Nat} {w : World} (hn : n < 18446744073709551616) : Gives Tryz.prog 149 #[.int .u64 n] w (.int .u64 (foldN n : Int)) := by
  refine Gives.of ?_
  go_enter Tryz.func149, Tryz.ntmps149
  go_wp2
  go_loop [0] (fun x => ∃ m : Nat, m < 18446744073709551616 ∧ foldN m = foldN n ∧ x = .int .u64 (m : Int)) (fun x => (intOf x).toNat)
  case atStart => exact ⟨n, hn, rfl, rfl⟩
  case round =>
    obtain ⟨m, hm, he, rfl⟩ := hrel
    have HE := Lib.hid he
    clear he
    by_cases h : 65535 < m
    · have hand : bits .and .u64 (m : Int) 65535 = ((m % 65536 : Nat) : Int) := by rw [show (65535 : Int) = ((65535 : Nat) : Int) from rfl, u64_and_nat _ _ hm (by omega), nat_mask16]
      go_wp2
      refine ⟨⟨m % 65536 + m / 65536, by omega, by rw [foldN_step h, HE.out], ?_⟩, by simp [intOf]; omega⟩
      congr 1
    · go_wp2
      go_ret
      exact ⟨by rw [← HE.out, foldN_small (by omega)]; rfl, by simp⟩
theorem total_any {g off c : Nat} {ss : List ByteArray} {w : World} (hc : ∀ i s, ss[i]? = some s → w.cell? ⟨g, off + i, none⟩ = some (.string s)) (hz : ∀ s ∈ ss, s.size ≤ 9223372036854775807) (hb : ss.length ≤ 1000000) (hg : g < w.heap.size) :
    Gives Tryz.prog 119 #[.slice (some ⟨g, off, none⟩) ss.length c] w (.int .u64 (foldN (wsum (flat ss)) : Int)) := by
  refine Gives.of ?_
  have HC := Lib.hid hc
  have HZ := Lib.hid hz
  clear hc hz
  go_enter Tryz.func119, Tryz.ntmps119
  go_wp2
  go_loopw [3, 4, 6, 7, 8, 11] (fun n odd _ _ _ i wr => ∃ k : Nat, k ≤ ss.length ∧ i = .int .i64 k ∧ n = .int .u64 (foldN (wsum (flat (ss.take k))) : Int) ∧ odd = .bool (decide ((flat (ss.take k)).length % 2 = 1)) ∧ ∃ y : BW w.heap.size w, wr = y.w) (fun _ _ _ _ _ i _ => ss.length - (intOf i).toNat)
  case atStart => exact ⟨0, by omega, rfl, rfl, rfl, BW.mk (Below.refl _ _), rfl⟩
  case round =>
    obtain ⟨k, hk, rfl, rfl, rfl, y, rfl⟩ := hrel
    by_cases hlt : k < ss.length
    · have hcell := HC.out k _ (List.getElem?_eq_getElem hlt)
      have hts : ss.take (k + 1) = ss.take k ++ [ss[k]] := by rw [List.take_add_one, List.getElem?_eq_getElem hlt]; rfl
      have HT := Lib.hid hts
      have hsz := HZ.out _ (List.getElem_mem hlt)
      clear hts
      generalize ss[k] = s at *
      generalize hL : flat (ss.take k) = L at *
      have HL := Lib.hid hL
      clear hL
      go_wp2_with fail
      go_loopw [3, 4, 7, 8, 17] (fun n odd _ _ j wi => ∃ m : Nat, m ≤ s.size ∧ j = .int .i64 m ∧ n = .int .u64 (foldN (wsum (L ++ s.data.toList.take m)) : Int) ∧ odd = .bool (decide ((L ++ s.data.toList.take m).length % 2 = 1)) ∧ ∃ z : BW w.heap.size w, wi = z.w) (fun _ _ _ _ j _ => s.size - (intOf j).toNat)
      case atStart => exact ⟨0, by omega, rfl, by simp, by simp, y, rfl⟩
      case round =>
        obtain ⟨m, hm, rfl, rfl, rfl, z, rfl⟩ := hrel
        by_cases hlt2 : m < s.size
        · have hs2 := Lib.hid (take_snocB s m hlt2)
          have hb := s[m].toNat_lt
          have hws := Lib.hid (wsum_snoc (L ++ s.data.toList.take m) s[m])
          have hfl := foldN_le (wsum (L ++ s.data.toList.take m))
          have hlen := Lib.hid (show ((L ++ s.data.toList.take m) ++ [s[m]]).length = (L ++ s.data.toList.take m).length + 1 by rw [List.length_append]; rfl)
          have happ := Lib.hid (show L ++ s.data.toList.take (m + 1) = (L ++ s.data.toList.take m) ++ [s[m]] by rw [hs2.out, List.append_assoc])
          generalize hX : L ++ s.data.toList.take m = X at *
          clear hX
          have hf1 : ∀ w, Gives Tryz.prog 149 #[.int .u64 ((foldN (wsum X) : Int) + (s[m].toNat : Int) * 256)] w (.int .u64 (foldN (wsum X + s[m].toNat * 256) : Int)) := fun w => by
            have h := fold_any (n := foldN (wsum X) + s[m].toNat * 256) (w := w) (by omega)
            rw [foldN_add, show ((foldN (wsum X) + s[m].toNat * 256 : Nat) : Int) = (foldN (wsum X) : Int) + (s[m].toNat : Int) * 256 by omega] at h
            exact h
          have hf2 : ∀ w, Gives Tryz.prog 149 #[.int .u64 ((foldN (wsum X) : Int) + (s[m].toNat : Int))] w (.int .u64 (foldN (wsum X + s[m].toNat) : Int)) := fun w => by
            have h := fold_any (n := foldN (wsum X) + s[m].toNat) (w := w) (by omega)
            rw [foldN_add, show ((foldN (wsum X) + s[m].toNat : Nat) : Int) = (foldN (wsum X) : Int) + (s[m].toNat : Int) by omega] at h
            exact h
          cases hp : decide (X.length % 2 = 1)
          · have hp0 : X.length % 2 = 0 := by have := of_decide_eq_false hp; omega
            have HP0 := Lib.hid hp0
            clear hp hp0
            go_wp2_with ((with_reducible (first | apply Gives.call_bw (Nat.le_refl _) | apply Gives.call)); (focus (first | (with_reducible exact hf1 _))); intro x; (try dsimp only [drew_heap] at x))
            refine ⟨⟨m + 1, by omega, by go_num, ?_, ?_, _, rfl⟩, by simp [intOf]; omega⟩
            · rw [happ.out, hws.out, HP0.out]; rfl
            · rw [happ.out, hlen.out]; have := HP0.out; simp; omega
          · have hp0 : X.length % 2 = 1 := of_decide_eq_true hp
            have HP0 := Lib.hid hp0
            clear hp hp0
            go_wp2_with ((with_reducible (first | apply Gives.call_bw (Nat.le_refl _) | apply Gives.call)); (focus (first | (with_reducible exact hf2 _))); intro x; (try dsimp only [drew_heap] at x))
            refine ⟨⟨m + 1, by omega, by go_num, ?_, ?_, _, rfl⟩, by simp [intOf]; omega⟩
            · rw [happ.out, hws.out, HP0.out]; rfl
            · rw [happ.out, hlen.out]; have := HP0.out; simp; omega
        · go_wp2
          refine ⟨⟨k + 1, by omega, by go_num, ?_, ?_, _, rfl⟩, by simp [intOf]; omega⟩
          · rw [HT.out, flat_snoc, HL.out, List.take_of_length_le (by rw [size_toList]; omega)]
          · rw [HT.out, flat_snoc, HL.out, List.take_of_length_le (by rw [size_toList]; omega)]
    · go_wp2
      go_ret
      exact ⟨by rw [List.take_of_length_le (by omega)]; rfl, by (first | ((repeat (with_reducible first | assumption | exact Below.refl _ _ | (refine below_bw _ ?_ ?_; rotate_left; focus (((repeat (with_reducible first | assumption | exact Nat.le_refl _ | refine BW.le_of ?_ | refine le_alloc ?_ | refine le_drew ?_ | refine le_drewN ?_ | refine le_set ?_ | refine le_plus ?_ | omega | refine le_setA ?_)); done))) | (refine Below.alloc ?_ ?_ _; rotate_left; focus (((repeat (with_reducible first | assumption | exact Nat.le_refl _ | refine BW.le_of ?_ | refine le_alloc ?_ | refine le_drew ?_ | refine le_drewN ?_ | refine le_set ?_ | refine le_plus ?_ | omega | refine le_setA ?_)); done))) | (refine Below.setCell ?_ ?_ _; rotate_left; focus (((repeat (with_reducible first | assumption | exact Nat.le_refl _ | refine BW.le_of ?_ | refine le_alloc ?_ | refine le_drew ?_ | refine le_drewN ?_ | refine le_set ?_ | refine le_plus ?_ | omega | refine le_setA ?_)); done))) | refine Below.drew ?_ | refine below_drewN ?_ _ | (refine below_setCells ?_ ?_ _ _; rotate_left; focus (((repeat (with_reducible first | assumption | exact Nat.le_refl _ | refine BW.le_of ?_ | refine le_alloc ?_ | refine le_drew ?_ | refine le_drewN ?_ | refine le_set ?_ | refine le_plus ?_ | omega | refine le_setA ?_)); done))))); done) | (simp; done) | (repeat (first | assumption | exact Below.refl _ _ | (refine below_bw _ ?_ ?_; rotate_left; focus ((first | omega | (repeat (first | with_reducible assumption | with_reducible exact Nat.le_refl _ | refine BW.le_of ?_ | refine le_alloc ?_ | refine le_drew ?_ | refine le_drewN ?_ | refine le_set ?_ | refine le_plus ?_ | assumption | exact Nat.le_refl _))))) | (refine Below.alloc ?_ ?_ _; rotate_left; focus ((first | omega | (repeat (first | with_reducible assumption | with_reducible exact Nat.le_refl _ | refine BW.le_of ?_ | refine le_alloc ?_ | refine le_drew ?_ | refine le_drewN ?_ | refine le_set ?_ | refine le_plus ?_ | assumption | exact Nat.le_refl _))))) | (refine Below.setCell ?_ ?_ _; rotate_left; focus ((first | omega | (repeat (first | with_reducible assumption | with_reducible exact Nat.le_refl _ | refine BW.le_of ?_ | refine le_alloc ?_ | refine le_drew ?_ | refine le_drewN ?_ | refine le_set ?_ | refine le_plus ?_ | assumption | exact Nat.le_refl _))))) | refine Below.drew ?_ | refine below_drewN ?_ _ | (refine below_setCells ?_ ?_ _ _; rotate_left; focus ((first | omega | (repeat (first | with_reducible assumption | with_reducible exact Nat.le_refl _ | refine BW.le_of ?_ | refine le_alloc ?_ | refine le_drew ?_ | refine le_drewN ?_ | refine le_set ?_ | refine le_plus ?_ | assumption | exact Nat.le_refl _))))))))⟩
theorem Check_any {g off c : Nat} {ss : List ByteArray} {w : World} (hc : ∀ i s, ss[i]? = some s → w.cell? ⟨g, off + i, none⟩ = some (.string s)) (hz : ∀ s ∈ ss, s.size ≤ 9223372036854775807) (hb : ss.length ≤ 1000000) (hg : g < w.heap.size) :
    Gives Tryz.prog 80 #[.slice (some ⟨g, off, none⟩) ss.length c] w (.int .i64 ((65535 - foldN (wsum (flat ss)) : Nat) : Int)) := by
  refine Gives.of ?_
  have h := @total_any g off c ss w hc hz hb hg
  have hl := foldN_le (wsum (flat ss))
  clear hc hz
  go_enter Tryz.func80, Tryz.ntmps80
  go_wp2_with ((with_reducible (first | apply Gives.call_bw (Nat.le_refl _) | apply Gives.call)); (focus (first | (with_reducible exact h))); intro x; (try dsimp only [drew_heap] at x))
  go_ret
  exact ⟨congrArg (fun b => Ending.returned (.int .i64 b)) (by show (65535 - (foldN (wsum (flat ss)) : Int)) = _; omega), by (first | ((repeat (with_reducible first | assumption | exact Below.refl _ _ | (refine below_bw _ ?_ ?_; rotate_left; focus (((repeat (with_reducible first | assumption | exact Nat.le_refl _ | refine BW.le_of ?_ | refine le_alloc ?_ | refine le_drew ?_ | refine le_drewN ?_ | refine le_set ?_ | refine le_plus ?_ | omega | refine le_setA ?_)); done))) | (refine Below.alloc ?_ ?_ _; rotate_left; focus (((repeat (with_reducible first | assumption | exact Nat.le_refl _ | refine BW.le_of ?_ | refine le_alloc ?_ | refine le_drew ?_ | refine le_drewN ?_ | refine le_set ?_ | refine le_plus ?_ | omega | refine le_setA ?_)); done))) | (refine Below.setCell ?_ ?_ _; rotate_left; focus (((repeat (with_reducible first | assumption | exact Nat.le_refl _ | refine BW.le_of ?_ | refine le_alloc ?_ | refine le_drew ?_ | refine le_drewN ?_ | refine le_set ?_ | refine le_plus ?_ | omega | refine le_setA ?_)); done))) | refine Below.drew ?_ | refine below_drewN ?_ _ | (refine below_setCells ?_ ?_ _ _; rotate_left; focus (((repeat (with_reducible first | assumption | exact Nat.le_refl _ | refine BW.le_of ?_ | refine le_alloc ?_ | refine le_drew ?_ | refine le_drewN ?_ | refine le_set ?_ | refine le_plus ?_ | omega | refine le_setA ?_)); done))))); done) | (simp; done) | (repeat (first | assumption | exact Below.refl _ _ | (refine below_bw _ ?_ ?_; rotate_left; focus ((first | omega | (repeat (first | with_reducible assumption | with_reducible exact Nat.le_refl _ | refine BW.le_of ?_ | refine le_alloc ?_ | refine le_drew ?_ | refine le_drewN ?_ | refine le_set ?_ | refine le_plus ?_ | assumption | exact Nat.le_refl _))))) | (refine Below.alloc ?_ ?_ _; rotate_left; focus ((first | omega | (repeat (first | with_reducible assumption | with_reducible exact Nat.le_refl _ | refine BW.le_of ?_ | refine le_alloc ?_ | refine le_drew ?_ | refine le_drewN ?_ | refine le_set ?_ | refine le_plus ?_ | assumption | exact Nat.le_refl _))))) | (refine Below.setCell ?_ ?_ _; rotate_left; focus ((first | omega | (repeat (first | with_reducible assumption | with_reducible exact Nat.le_refl _ | refine BW.le_of ?_ | refine le_alloc ?_ | refine le_drew ?_ | refine le_drewN ?_ | refine le_set ?_ | refine le_plus ?_ | assumption | exact Nat.le_refl _))))) | refine Below.drew ?_ | refine below_drewN ?_ _ | (refine below_setCells ?_ ?_ _ _; rotate_left; focus ((first | omega | (repeat (first | with_reducible assumption | with_reducible exact Nat.le_refl _ | refine BW.le_of ?_ | refine le_alloc ?_ | refine le_drew ?_ | refine le_drewN ?_ | refine le_set ?_ | refine le_plus ?_ | assumption | exact Nat.le_refl _))))))))⟩
theorem Good_any {g off c : Nat} {ss : List ByteArray} {w : World} (hc : ∀ i s, ss[i]? = some s → w.cell? ⟨g, off + i, none⟩ = some (.string s)) (hz : ∀ s ∈ ss, s.size ≤ 9223372036854775807) (hb : ss.length ≤ 1000000) (hg : g < w.heap.size) :
    Gives Tryz.prog 130 #[.slice (some ⟨g, off, none⟩) ss.length c] w (.bool (decide (foldN (wsum (flat ss)) = 65535))) := by
  refine Gives.of ?_
  have h := @total_any g off c ss w hc hz hb hg
  have hl := foldN_le (wsum (flat ss))
  clear hc hz
  go_enter Tryz.func130, Tryz.ntmps130
  go_wp2_with ((with_reducible (first | apply Gives.call_bw (Nat.le_refl _) | apply Gives.call)); (focus (first | (with_reducible exact h))); intro x; (try dsimp only [drew_heap] at x))
  go_ret
  refine ⟨congrArg (fun b => Ending.returned (.bool b)) ?_, by (first | ((repeat (with_reducible first | assumption | exact Below.refl _ _ | (refine below_bw _ ?_ ?_; rotate_left; focus (((repeat (with_reducible first | assumption | exact Nat.le_refl _ | refine BW.le_of ?_ | refine le_alloc ?_ | refine le_drew ?_ | refine le_drewN ?_ | refine le_set ?_ | refine le_plus ?_ | omega | refine le_setA ?_)); done))) | (refine Below.alloc ?_ ?_ _; rotate_left; focus (((repeat (with_reducible first | assumption | exact Nat.le_refl _ | refine BW.le_of ?_ | refine le_alloc ?_ | refine le_drew ?_ | refine le_drewN ?_ | refine le_set ?_ | refine le_plus ?_ | omega | refine le_setA ?_)); done))) | (refine Below.setCell ?_ ?_ _; rotate_left; focus (((repeat (with_reducible first | assumption | exact Nat.le_refl _ | refine BW.le_of ?_ | refine le_alloc ?_ | refine le_drew ?_ | refine le_drewN ?_ | refine le_set ?_ | refine le_plus ?_ | omega | refine le_setA ?_)); done))) | refine Below.drew ?_ | refine below_drewN ?_ _ | (refine below_setCells ?_ ?_ _ _; rotate_left; focus (((repeat (with_reducible first | assumption | exact Nat.le_refl _ | refine BW.le_of ?_ | refine le_alloc ?_ | refine le_drew ?_ | refine le_drewN ?_ | refine le_set ?_ | refine le_plus ?_ | omega | refine le_setA ?_)); done))))); done) | (simp; done) | (repeat (first | assumption | exact Below.refl _ _ | (refine below_bw _ ?_ ?_; rotate_left; focus ((first | omega | (repeat (first | with_reducible assumption | with_reducible exact Nat.le_refl _ | refine BW.le_of ?_ | refine le_alloc ?_ | refine le_drew ?_ | refine le_drewN ?_ | refine le_set ?_ | refine le_plus ?_ | assumption | exact Nat.le_refl _))))) | (refine Below.alloc ?_ ?_ _; rotate_left; focus ((first | omega | (repeat (first | with_reducible assumption | with_reducible exact Nat.le_refl _ | refine BW.le_of ?_ | refine le_alloc ?_ | refine le_drew ?_ | refine le_drewN ?_ | refine le_set ?_ | refine le_plus ?_ | assumption | exact Nat.le_refl _))))) | (refine Below.setCell ?_ ?_ _; rotate_left; focus ((first | omega | (repeat (first | with_reducible assumption | with_reducible exact Nat.le_refl _ | refine BW.le_of ?_ | refine le_alloc ?_ | refine le_drew ?_ | refine le_drewN ?_ | refine le_set ?_ | refine le_plus ?_ | assumption | exact Nat.le_refl _))))) | refine Below.drew ?_ | refine below_drewN ?_ _ | (refine below_setCells ?_ ?_ _ _; rotate_left; focus ((first | omega | (repeat (first | with_reducible assumption | with_reducible exact Nat.le_refl _ | refine BW.le_of ?_ | refine le_alloc ?_ | refine le_drew ?_ | refine le_drewN ?_ | refine le_set ?_ | refine le_plus ?_ | assumption | exact Nat.le_refl _))))))))⟩
  rw [Bool.eq_iff_iff]; simp; omega
/-! the parts in a block of the call's own -/
theorem strs_row {w : World} {g : Nat} {t : TypeId} {ss : List ByteArray} (h : Row w g t (ss.map Value.string).toArray) : ∀ i s, ss[i]? = some s → w.cell? ⟨g, 0 + i, none⟩ = some (.string s) := by
  intro i s hs
  rw [Nat.zero_add, h.cell]
  simp [hs]
def SmallSs (ss : List ByteArray) : Prop := (∀ s ∈ ss, s.size ≤ 9223372036854775807) ∧ ss.length ≤ 1000000
theorem small1 {a : ByteArray} (ha : a.size ≤ 9223372036854775807) : SmallSs [a] := ⟨by simpa using ha, by simp⟩
theorem small2 {a b : ByteArray} (ha : a.size ≤ 9223372036854775807) (hb : b.size ≤ 9223372036854775807) : SmallSs [a, b] := ⟨by simp [ha, hb], by simp⟩
theorem small3 {a b c : ByteArray} (ha : a.size ≤ 9223372036854775807) (hb : b.size ≤ 9223372036854775807) (hc : c.size ≤ 9223372036854775807) : SmallSs [a, b, c] := ⟨by simp [ha, hb, hc], by simp⟩
theorem Check_row {g c m : Nat} {ss : List ByteArray} {w : World} (hm : ss.length = m) (hs : SmallSs ss) (h : Row w g 9 (ss.map Value.string).toArray) :
    Gives Tryz.prog 80 #[.slice (some ⟨g, 0, none⟩) m c] w (.int .i64 ((65535 - foldN (wsum (flat ss)) : Nat) : Int)) := by
  subst hm; exact Check_any (strs_row h) hs.1 hs.2 h.lt
theorem Good_row {g c m : Nat} {ss : List ByteArray} {w : World} (hm : ss.length = m) (hs : SmallSs ss) (h : Row w g 9 (ss.map Value.string).toArray) :
    Gives Tryz.prog 130 #[.slice (some ⟨g, 0, none⟩) m c] w (.bool (decide (foldN (wsum (flat ss)) = 65535))) := by
  subst hm; exact Good_any (strs_row h) hs.1 hs.2 h.lt
end Go.Proofs.YtnobencogihbnaaGreat
