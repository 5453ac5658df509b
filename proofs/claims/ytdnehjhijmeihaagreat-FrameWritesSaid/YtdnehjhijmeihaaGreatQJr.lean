/-
  Joined texts: Jr.
-/
import Derived.Test.YtdnehjhijmeihaaGreatQJm
import Derived.Test.YtdnehjhijmeihaaGreatQGp
namespace Go.Proofs.YtdnehjhijmeihaaGreat
open Go.ChangeShapes Go.WideShapes Go.ChangeAt Go.RowKit
set_option linter.unusedVariables false
set_option linter.unusedSimpArgs false
set_option maxRecDepth 20000
set_option maxHeartbeats 4000000
attribute [local irreducible] wpList
structure RdT (s : ByteArray) (k : Nat) (b : Bool) (n k' : Nat) (b' : Bool) (x : ByteArray) : Prop where
  hk : k ≤ s.size
  hs : s.size ≤ 100000
  ek : rdK s k b n = k'
  eb : rdB s k b n = b'
  ex : rdS s k b n = x
theorem RdT.of {s : ByteArray} {k : Nat} (b : Bool) (n : Nat) (hk : k ≤ s.size) (hs : s.size ≤ 100000) : ∃ k' b' x, RdT s k b n k' b' x := ⟨_, _, _, hk, hs, rfl, rfl, rfl⟩
section
variable {s : ByteArray} {k n k' : Nat} {b b' : Bool} {x : ByteArray}
theorem RdT.le (h : RdT s k b n k' b' x) : k' ≤ s.size := by rw [← h.ek]; exact rdK_le _ _ h.hk
theorem RdT.ok (h : RdT s k false n k' b' x) (hn : k + n ≤ s.size) : k' = k + n ∧ b' = false ∧ x = s.extract k (k + n) := by
  obtain ⟨_, _, h1, h2, h3⟩ := h
  obtain ⟨e1, e2, e3⟩ := rdOk (s := s) (k := k) (n := (n : Int)) hn
  rw [Int.toNat_natCast] at e1 e2 e3
  rw [← h1, ← h2, ← h3, e1, e2, e3]; exact ⟨rfl, rfl, rfl⟩
theorem RdT.no (h : RdT s k b n k' b' x) (hn : b = true ∨ s.size < k + n) : k' = k ∧ b' = true ∧ x = ⟨#[]⟩ := by
  obtain ⟨_, _, h1, h2, h3⟩ := h
  cases b
  · obtain ⟨e1, e2, e3⟩ := rdNo (s := s) (k := k) (n := (n : Int)) (by simpa using hn)
    rw [Int.toNat_natCast] at e1 e2 e3
    rw [← h1, ← h2, ← h3, e1, e2, e3]; exact ⟨rfl, rfl, rfl⟩
  · obtain ⟨e1, e2, e3⟩ := rdBad (s := s) (k := k) n
    rw [← h1, ← h2, ← h3, e1, e2, e3]; exact ⟨rfl, rfl, rfl⟩
theorem RdT.sz (h : RdT s k b n k' b' x) : x.size ≤ n := by
  obtain ⟨hk, _, h1, h2, rfl⟩ := h
  unfold rdS
  split
  · have := cut_size2 s k (k + n); omega
  · exact Nat.zero_le _
def NumX (x : ByteArray) (v : Nat) : Prop := numL x.data.toList = v
theorem NumX.lt {v : Nat} (h : NumX x v) : v < 256 ^ x.size := by rw [← h, ← size_toList]; exact numL_lt _
end
theorem numX_at (s : ByteArray) (k n : Nat) : NumX (s.extract k (k + n)) (numAt s k n) := by unfold NumX numAt; rw [toList_extract, Nat.add_sub_cancel_left]
theorem bits_is {n a b v : Nat} (hn : n < 18446744073709551616) (ha : a ≤ 64) (hb : b ≤ 64) (hv : n / 2 ^ a % 2 ^ b = v) (w : World) : Gives Tryz.prog 50 #[.int .u64 (n : Int), .int .i64 (a : Int), .int .i64 (b : Int)] w (.int .u64 (v : Int)) := by
  have := bits_any (n := n) (a := (a : Int)) (b := (b : Int)) (w := w) hn
  have e : ∀ m : Nat, m ≤ 64 → wn (m : Int) 64 = m := fun m h => by unfold wn within; rw [if_neg (by omega), if_neg (by omega)]; rfl
  rw [e _ ha, e _ hb] at this
  rwa [← hv]
section
variable {B : Nat} {w0 W : World} {H : HB} {g : Nat} {R : Ending → World → Prop} {s : ByteArray} {k : Nat} {b : Bool} {n : Int}
abbrev rSg (s : ByteArray) (k : Nat) (b : Bool) : List Seg := [.one (.string s), .one (.int .i64 (k : Int)), .one (.bool b)]
theorem hTakeG (hH : Hp B w0 W H) [hi : HasB H g 129 true (rSg s k b)]
    (h : ∃ k' b' x H', RdT s k b n.toNat k' b' x ∧ n ≤ 9000000 ∧ updH H hi.i (rSg s k' b') = some H' ∧ ∀ W', Hp B w0 W' H' → R (.returned (.string x)) W') : Calls Tryz.prog 101 #[.pointer (some ⟨g, 0, none⟩), .int .i64 n] W R := by
  obtain ⟨k', b', x, H', ⟨hk, hs, rfl, rfl, rfl⟩, hn, hu, h⟩ := h
  exact hTakeA hi.i hH hi.h hu (by omega) hk (by omega) h
theorem hNumG (hH : Hp B w0 W H) [hi : HasB H g 129 true (rSg s k b)]
    (h : ∃ k' b' x v H', RdT s k b n.toNat k' b' x ∧ NumX x v ∧ (0 ≤ n ∧ n ≤ 8) ∧ updH H hi.i (rSg s k' b') = some H' ∧ ∀ W', Hp B w0 W' H' → R (.returned (.int .u64 (v : Int))) W') : Calls Tryz.prog 49 #[.pointer (some ⟨g, 0, none⟩), .int .i64 n] W R := by
  obtain ⟨k', b', x, v, H', ⟨hk, hs, rfl, rfl, rfl⟩, rfl, hn, hu, h⟩ := h
  refine hNumA (H' := H') hi.i hH hi.h ?_ (by omega) hk ?_
  · rw [wn8 hn.1 hn.2]; exact hu
  · rw [wn8 hn.1 hn.2]; exact h
theorem hRestG (hH : Hp B w0 W H) [hi : HasB H g 129 true (rSg s k b)] (h : (k ≤ s.size ∧ s.size ≤ 100000) ∧ ∀ W', Hp B w0 W' H → R (.returned (.string (s.extract k s.size))) W') : Calls Tryz.prog 51 #[.pointer (some ⟨g, 0, none⟩)] W R :=
  callR hi.i hH hi.h (fun hr => Rest_any hr (by have := h.1.2; omega) h.1.1) h.2
theorem hLeftG (hH : Hp B w0 W H) [hi : HasB H g 129 true (rSg s k b)] (h : (k ≤ s.size ∧ s.size ≤ 100000) ∧ ∀ W', Hp B w0 W' H → R (.returned (.int .i64 ((s.size - k : Nat) : Int))) W') : Calls Tryz.prog 187 #[.pointer (some ⟨g, 0, none⟩)] W R :=
  callR hi.i hH hi.h (fun hr => Left_any hr (by have := h.1.2; omega) h.1.1) h.2
theorem hBadG (hH : Hp B w0 W H) [hi : HasB H g 129 true (rSg s k b)] (h : ∀ W', Hp B w0 W' H → R (.returned (.bool b)) W') : Calls Tryz.prog 52 #[.pointer (some ⟨g, 0, none⟩)] W R :=
  hBad hi.i hH hi.h h
end
theorem rds {P Q : Prop} (k : Q) (h : Kp Q → P := by (intro kq0; (first | (go_at_call 47; refine hNew hH ?_) | (go_at_call 49; refine hNumG hH ?_; refine ⟨?_, ?_, ?_, ?_, ?_, ?_, ?_, ?_, ?_, ?_⟩; rotate_left 5; (focus assumption); (focus assumption); (focus (first | omega | (simp; omega))); (focus rfl)) | (go_at_call 101; refine hTakeG hH ?_; refine ⟨?_, ?_, ?_, ?_, ?_, ?_, ?_, ?_⟩; rotate_left 4; (focus assumption); (focus (first | omega | (simp; omega))); (focus rfl)) | (go_at_call 51; refine hRestG hH ⟨?_, ?_⟩; (focus omega)) | (go_at_call 187; refine hLeftG hH ⟨?_, ?_⟩; (focus omega)) | (go_at_call 52; refine hBadG hH ?_)); (try simp only [Act.put, pA, pB, pC]); exact kq0.out)) : P := h ⟨k⟩
section
variable {x : ByteArray} {w : World}
theorem adR_six {b : ByteArray} (h : b.size = 16) : adL (adR b) = addrL true (adOf b) := by unfold adR adL; rw [dif_neg (by omega), dif_pos h]
theorem aRead_ad (h : x.size = 4 ∨ x.size = 16) : Gives Tryz.prog 107 #[.string x] w (.tuple #[.agg (fls [.many (adL (adR x)) 17]).toArray, .int .i64 0]) := by
  rcases h with h | h
  · rw [adR_four h, addr_segs1]; exact aRead_one (b := false) h
  · rw [adR_six h, addr_segs1]; exact aRead_one (b := true) h
end
noncomputable def aZ : List Value := zeroL Tryz.prog 25
theorem aZ_ok : OkA aZ 17 := by unfold aZ; rw [← adL_z]; exact adL_ok _
end Go.Proofs.YtdnehjhijmeihaaGreat
