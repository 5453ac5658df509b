/-
  Contracts of package addr and of its reference: addresses by their cells; what is good, bytes, what is read.
-/
import Derived.Test.YtdjbpamigkpbeaaRows
import Derived.Test.YtdjbpamigkpbeaaOct
import Derived.Test.YtdjbpamigkpbeaaPart
import Derived.Test.YtdjbpamigkpbeaaHeld
import Derived.Lib.LazyBuf
namespace Go.Proofs.Ytdjbpamigkpbeaa
open Go.ChangeShapes Go.WideShapes Go.ChangeAt Go.RowKit
set_option linter.unusedVariables false
set_option linter.unusedSimpArgs false

/-- an address, by its cells: is it of version 6, and its 16 bytes -/
def addrL (v : Bool) (l : List UInt8) : List Value := .bool v :: l.map byteV
def addrV (v : Bool) (l : List UInt8) : Array Value := (addrL v l).toArray
section
variable {v : Bool} {l : List UInt8}
theorem addrL_length (h : l.length = 16) : (addrL v l).length = 17 := by simp [addrL, h]
theorem addrV_size (h : l.length = 16) : (addrV v l).size = 17 := by simp [addrV, addrL, h]
theorem addrV_list : (addrV v l).toList = addrL v l := rfl
theorem addrV_0 : (addrV v l)[0]? = some (.bool v) := rfl
theorem addrV_at {i : Nat} {b : UInt8} (hb : l[i]? = some b) : (addrV v l)[1 + i]? = some (byteV b) := by
  rw [← Array.getElem?_toList, addrV_list, addrL, Nat.add_comm, List.getElem?_cons_succ, List.getElem?_map, hb]; rfl
theorem addrV_one : (addrV v l).all (·.oneCell') = true := by
  refine oneL _ ?_
  simp [addrL, List.all_map]
  exact ⟨rfl, fun _ _ => rfl⟩
theorem addr_lits (h : l.length = 16) : Try.prog.keyLits 8 31 (addrL v l) = some (Lit.bool v :: l.map fun b => Lit.int .u8 (b.toNat : Int)) := by
  have hb : Try.prog.keyLits 7 29 (l.map byteV) = some (l.map fun b => Lit.int .u8 (b.toNat : Int)) := lits_bytes (d := 5) (n := 16) Try.underlying29 (by kernel_rfl) Try.underlying5 (by kernel_rfl) h
  have h1 : Try.prog.keyLits 7 4 [.bool v] = some [.bool v] := lits_bool Try.underlying4
  have c1 : Try.prog.cellsOf 4 = 1 := by kernel_rfl
  have c2 : Try.prog.cellsOf 29 = 16 := by kernel_rfl
  have h3 := lits_struct (d := 7) (cs := addrL v l) (ls := [[.bool v], l.map fun b => Lit.int .u8 (b.toNat : Int)]) Try.underlying31 (by rw [addrL_length h]; kernel_rfl) (by kernel_rfl) (by
    simp only [List.mapM_cons, List.mapM_nil, addrL, List.drop_zero, c1, c2, List.take_succ_cons, List.take_zero, h1, List.drop_succ_cons]
    rw [List.take_of_length_le (by simp [h]), hb]
    rfl)
  rw [h3]
  simp
theorem addrV_formed (h : l.length = 16) : (Value.agg (addrV v l)).formed Try.prog 31 = true := by
  unfold Value.formed
  rw [Try.underlying31]
  simp only [addrV_size h, beq_iff_eq]
  kernel_rfl
theorem lit_inj : ∀ {l m : List UInt8}, (l.map fun b => Lit.int .u8 (b.toNat : Int)) = m.map (fun b => Lit.int .u8 (b.toNat : Int)) → l = m
  | [], [], _ => rfl
  | [], _ :: _, h => by simp at h
  | _ :: _, [], h => by simp at h
  | a :: l, b :: m, h => by
    rw [List.map_cons, List.map_cons] at h
    injection h with h1 h2
    injection h1 with h3 h4
    rw [lit_inj h2, UInt8.toNat.inj (show a.toNat = b.toNat by omega)]
theorem addr_eql {u : Bool} {m : List UInt8} (h : l.length = 16) (k : m.length = 16) (w : World) : (binOp .eql 31 (.agg (addrV v l)) (.agg (addrV u m))).run Try.prog w = .ok (.bool (v == u && l == m)) w := by
  refine eql_cells (by kernel_rfl) (addrV_formed h) (addrV_formed k) (addr_lits h) (addr_lits k) _ ?_ w
  constructor
  · intro e
    simp at e
    rw [e.1, e.2]
  · intro e
    injection e with e1 e2
    injection e1 with e1
    rw [e1, lit_inj e2]
    simp
end
theorem sixteen {l : List UInt8} (h : l.length = 16) : ∃ a0 a1 a2 a3 a4 a5 a6 a7 a8 a9 a10 a11 a12 a13 a14 a15, l = [a0, a1, a2, a3, a4, a5, a6, a7, a8, a9, a10, a11, a12, a13, a14, a15] := by
  match l, h with
  | [a0, a1, a2, a3, a4, a5, a6, a7, a8, a9, a10, a11, a12, a13, a14, a15], _ => exact ⟨_, _, _, _, _, _, _, _, _, _, _, _, _, _, _, _, rfl⟩
def zero16 : List UInt8 := List.replicate 16 0
def bytesA (v : Bool) (l : List UInt8) : List UInt8 := if v then l else l.take 4
def goodA (v : Bool) (l : List UInt8) : Bool := v || l.drop 4 == List.replicate 12 0
section
variable {v : Bool} {l : List UInt8} {w : World}
/-- bytes as an address -/
def adOf (s : ByteArray) : List UInt8 := s.data.toList ++ List.replicate (16 - s.size) 0
theorem adOf_length {s : ByteArray} (h : s.size ≤ 16) : (adOf s).length = 16 := by simp [adOf, size_toList]; have := size_toList s; simp at this; omega
theorem raGood_any (h : l.length = 16) : Gives Try.prog 59 #[.agg (addrV v l)] w (.bool (goodA v l)) := by
  refine Gives.of ?_
  have hz := Lib.hid (addrV_size (v := v) h)
  have c0 : (addrV v l)[0]? = some (.bool v) := addrV_0
  have HC := Lib.hid (fun i b (hb : l[i]? = some b) => addrV_at (v := v) hb)
  generalize addrV v l = A at *
  cases v
  · go_enter Try.func59, Try.ntmps59
    go_wp2
    go_loopw [3] (fun i wr => ∃ k : Nat, 4 ≤ k ∧ k ≤ 16 ∧ i = .int .i64 k ∧ (∀ j, 4 ≤ j → j < k → l[j]? = some 0) ∧ wr = w.alloc (.cells A 31)) (fun i _ => 16 - (intOf i).toNat)
    case atStart => exact ⟨4, by omega, by omega, rfl, fun j _ _ => by omega, rfl⟩
    case round =>
      obtain ⟨k, hk4, hk, rfl, hall, rfl⟩ := hrel
      by_cases hlt : k < 16
      · have hb : l[k]? = some l[k] := List.getElem?_eq_getElem (by omega)
        have hcell := HC.out k _ hb
        have HALL := Lib.hid hall
        have HB := Lib.hid hb
        clear hb hall
        generalize l[k] = b at *
        unfold byteV at hcell
        by_cases hb0 : b = 0
        · subst hb0
          have hcell : A[1 + k]? = some (.int .u8 0) := hcell
          go_wp2
          refine ⟨⟨k + 1, by omega, by omega, by go_num, fun j h4 hj => ?_, by first | trivial | rfl⟩, by simp [intOf]; omega⟩
          by_cases hjk : j = k
          · subst hjk; exact HB.out
          · exact HALL.out j h4 (by omega)
        · have hn : ((b.toNat : Int) != 0) = true := by
            have : b.toNat ≠ 0 := fun e => hb0 (UInt8.toNat.inj e)
            simp; omega
          have hG := Lib.hid (show goodA false l = false by
            unfold goodA
            rw [Bool.false_or, beq_eq_false_iff_ne]
            intro e
            have h1 : (l.drop 4)[k - 4]? = some b := by rw [List.getElem?_drop, show 4 + (k - 4) = k by omega]; exact HB.out
            rw [e, List.getElem?_replicate, if_pos (by omega)] at h1
            exact hb0 (by injection h1 with h1; exact h1.symm))
          go_wp2
          go_ret
          exact ⟨by rw [hG.out]; rfl, by (first | ((repeat (with_reducible first | assumption | exact Below.refl _ _ | (refine below_bw _ ?_ ?_; rotate_left; focus (((repeat (with_reducible first | assumption | exact Nat.le_refl _ | refine BW.le_of ?_ | refine le_alloc ?_ | refine le_drew ?_ | refine le_drewN ?_ | refine le_set ?_ | refine le_plus ?_ | omega | refine le_setA ?_)); done))) | (refine Below.alloc ?_ ?_ _; rotate_left; focus (((repeat (with_reducible first | assumption | exact Nat.le_refl _ | refine BW.le_of ?_ | refine le_alloc ?_ | refine le_drew ?_ | refine le_drewN ?_ | refine le_set ?_ | refine le_plus ?_ | omega | refine le_setA ?_)); done))) | (refine Below.setCell ?_ ?_ _; rotate_left; focus (((repeat (with_reducible first | assumption | exact Nat.le_refl _ | refine BW.le_of ?_ | refine le_alloc ?_ | refine le_drew ?_ | refine le_drewN ?_ | refine le_set ?_ | refine le_plus ?_ | omega | refine le_setA ?_)); done))) | refine Below.drew ?_ | refine below_drewN ?_ _ | (refine below_setCells ?_ ?_ _ _; rotate_left; focus (((repeat (with_reducible first | assumption | exact Nat.le_refl _ | refine BW.le_of ?_ | refine le_alloc ?_ | refine le_drew ?_ | refine le_drewN ?_ | refine le_set ?_ | refine le_plus ?_ | omega | refine le_setA ?_)); done))))); done) | (simp; done) | (repeat (first | assumption | exact Below.refl _ _ | (refine below_bw _ ?_ ?_; rotate_left; focus ((first | omega | (repeat (first | with_reducible assumption | with_reducible exact Nat.le_refl _ | refine BW.le_of ?_ | refine le_alloc ?_ | refine le_drew ?_ | refine le_drewN ?_ | refine le_set ?_ | refine le_plus ?_ | assumption | exact Nat.le_refl _))))) | (refine Below.alloc ?_ ?_ _; rotate_left; focus ((first | omega | (repeat (first | with_reducible assumption | with_reducible exact Nat.le_refl _ | refine BW.le_of ?_ | refine le_alloc ?_ | refine le_drew ?_ | refine le_drewN ?_ | refine le_set ?_ | refine le_plus ?_ | assumption | exact Nat.le_refl _))))) | (refine Below.setCell ?_ ?_ _; rotate_left; focus ((first | omega | (repeat (first | with_reducible assumption | with_reducible exact Nat.le_refl _ | refine BW.le_of ?_ | refine le_alloc ?_ | refine le_drew ?_ | refine le_drewN ?_ | refine le_set ?_ | refine le_plus ?_ | assumption | exact Nat.le_refl _))))) | refine Below.drew ?_ | refine below_drewN ?_ _ | (refine below_setCells ?_ ?_ _ _; rotate_left; focus ((first | omega | (repeat (first | with_reducible assumption | with_reducible exact Nat.le_refl _ | refine BW.le_of ?_ | refine le_alloc ?_ | refine le_drew ?_ | refine le_drewN ?_ | refine le_set ?_ | refine le_plus ?_ | assumption | exact Nat.le_refl _))))))))⟩
      · have hG := Lib.hid (show goodA false l = true by
          unfold goodA
          rw [Bool.false_or, beq_iff_eq]
          apply List.ext_getElem?
          intro i
          rw [List.getElem?_drop, List.getElem?_replicate]
          split
          · exact hall _ (by omega) (by omega)
          · exact List.getElem?_eq_none (by omega))
        clear hall
        go_wp2
        go_ret
        exact ⟨by rw [hG.out]; rfl, by (first | ((repeat (with_reducible first | assumption | exact Below.refl _ _ | (refine below_bw _ ?_ ?_; rotate_left; focus (((repeat (with_reducible first | assumption | exact Nat.le_refl _ | refine BW.le_of ?_ | refine le_alloc ?_ | refine le_drew ?_ | refine le_drewN ?_ | refine le_set ?_ | refine le_plus ?_ | omega | refine le_setA ?_)); done))) | (refine Below.alloc ?_ ?_ _; rotate_left; focus (((repeat (with_reducible first | assumption | exact Nat.le_refl _ | refine BW.le_of ?_ | refine le_alloc ?_ | refine le_drew ?_ | refine le_drewN ?_ | refine le_set ?_ | refine le_plus ?_ | omega | refine le_setA ?_)); done))) | (refine Below.setCell ?_ ?_ _; rotate_left; focus (((repeat (with_reducible first | assumption | exact Nat.le_refl _ | refine BW.le_of ?_ | refine le_alloc ?_ | refine le_drew ?_ | refine le_drewN ?_ | refine le_set ?_ | refine le_plus ?_ | omega | refine le_setA ?_)); done))) | refine Below.drew ?_ | refine below_drewN ?_ _ | (refine below_setCells ?_ ?_ _ _; rotate_left; focus (((repeat (with_reducible first | assumption | exact Nat.le_refl _ | refine BW.le_of ?_ | refine le_alloc ?_ | refine le_drew ?_ | refine le_drewN ?_ | refine le_set ?_ | refine le_plus ?_ | omega | refine le_setA ?_)); done))))); done) | (simp; done) | (repeat (first | assumption | exact Below.refl _ _ | (refine below_bw _ ?_ ?_; rotate_left; focus ((first | omega | (repeat (first | with_reducible assumption | with_reducible exact Nat.le_refl _ | refine BW.le_of ?_ | refine le_alloc ?_ | refine le_drew ?_ | refine le_drewN ?_ | refine le_set ?_ | refine le_plus ?_ | assumption | exact Nat.le_refl _))))) | (refine Below.alloc ?_ ?_ _; rotate_left; focus ((first | omega | (repeat (first | with_reducible assumption | with_reducible exact Nat.le_refl _ | refine BW.le_of ?_ | refine le_alloc ?_ | refine le_drew ?_ | refine le_drewN ?_ | refine le_set ?_ | refine le_plus ?_ | assumption | exact Nat.le_refl _))))) | (refine Below.setCell ?_ ?_ _; rotate_left; focus ((first | omega | (repeat (first | with_reducible assumption | with_reducible exact Nat.le_refl _ | refine BW.le_of ?_ | refine le_alloc ?_ | refine le_drew ?_ | refine le_drewN ?_ | refine le_set ?_ | refine le_plus ?_ | assumption | exact Nat.le_refl _))))) | refine Below.drew ?_ | refine below_drewN ?_ _ | (refine below_setCells ?_ ?_ _ _; rotate_left; focus ((first | omega | (repeat (first | with_reducible assumption | with_reducible exact Nat.le_refl _ | refine BW.le_of ?_ | refine le_alloc ?_ | refine le_drew ?_ | refine le_drewN ?_ | refine le_set ?_ | refine le_plus ?_ | assumption | exact Nat.le_refl _))))))))⟩
  · go_enter Try.func59, Try.ntmps59
    go_wp2
    go_loopw [3] (fun i wr => ∃ k : Nat, 4 ≤ k ∧ k ≤ 16 ∧ i = .int .i64 k ∧ wr = w.alloc (.cells A 31)) (fun i _ => 16 - (intOf i).toNat)
    case atStart => exact ⟨4, by omega, by omega, rfl, rfl⟩
    case round =>
      obtain ⟨k, hk4, hk, rfl, rfl⟩ := hrel
      by_cases hlt : k < 16
      · go_wp2
        exact ⟨⟨k + 1, by omega, by omega, by go_num, by first | trivial | rfl⟩, by simp [intOf]; omega⟩
      · go_wp2
        go_ret
        exact ⟨rfl, by (first | ((repeat (with_reducible first | assumption | exact Below.refl _ _ | (refine below_bw _ ?_ ?_; rotate_left; focus (((repeat (with_reducible first | assumption | exact Nat.le_refl _ | refine BW.le_of ?_ | refine le_alloc ?_ | refine le_drew ?_ | refine le_drewN ?_ | refine le_set ?_ | refine le_plus ?_ | omega | refine le_setA ?_)); done))) | (refine Below.alloc ?_ ?_ _; rotate_left; focus (((repeat (with_reducible first | assumption | exact Nat.le_refl _ | refine BW.le_of ?_ | refine le_alloc ?_ | refine le_drew ?_ | refine le_drewN ?_ | refine le_set ?_ | refine le_plus ?_ | omega | refine le_setA ?_)); done))) | (refine Below.setCell ?_ ?_ _; rotate_left; focus (((repeat (with_reducible first | assumption | exact Nat.le_refl _ | refine BW.le_of ?_ | refine le_alloc ?_ | refine le_drew ?_ | refine le_drewN ?_ | refine le_set ?_ | refine le_plus ?_ | omega | refine le_setA ?_)); done))) | refine Below.drew ?_ | refine below_drewN ?_ _ | (refine below_setCells ?_ ?_ _ _; rotate_left; focus (((repeat (with_reducible first | assumption | exact Nat.le_refl _ | refine BW.le_of ?_ | refine le_alloc ?_ | refine le_drew ?_ | refine le_drewN ?_ | refine le_set ?_ | refine le_plus ?_ | omega | refine le_setA ?_)); done))))); done) | (simp; done) | (repeat (first | assumption | exact Below.refl _ _ | (refine below_bw _ ?_ ?_; rotate_left; focus ((first | omega | (repeat (first | with_reducible assumption | with_reducible exact Nat.le_refl _ | refine BW.le_of ?_ | refine le_alloc ?_ | refine le_drew ?_ | refine le_drewN ?_ | refine le_set ?_ | refine le_plus ?_ | assumption | exact Nat.le_refl _))))) | (refine Below.alloc ?_ ?_ _; rotate_left; focus ((first | omega | (repeat (first | with_reducible assumption | with_reducible exact Nat.le_refl _ | refine BW.le_of ?_ | refine le_alloc ?_ | refine le_drew ?_ | refine le_drewN ?_ | refine le_set ?_ | refine le_plus ?_ | assumption | exact Nat.le_refl _))))) | (refine Below.setCell ?_ ?_ _; rotate_left; focus ((first | omega | (repeat (first | with_reducible assumption | with_reducible exact Nat.le_refl _ | refine BW.le_of ?_ | refine le_alloc ?_ | refine le_drew ?_ | refine le_drewN ?_ | refine le_set ?_ | refine le_plus ?_ | assumption | exact Nat.le_refl _))))) | refine Below.drew ?_ | refine below_drewN ?_ _ | (refine below_setCells ?_ ?_ _ _; rotate_left; focus ((first | omega | (repeat (first | with_reducible assumption | with_reducible exact Nat.le_refl _ | refine BW.le_of ?_ | refine le_alloc ?_ | refine le_drew ?_ | refine le_drewN ?_ | refine le_set ?_ | refine le_plus ?_ | assumption | exact Nat.le_refl _))))))))⟩
end
end Go.Proofs.Ytdjbpamigkpbeaa
