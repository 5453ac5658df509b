/-
  Contract of package digest: which change bytes begin with.
-/
import Derived.Test.YtjegjgdihpihoaaGreatDoorE5
import Derived.Test.YtjegjgdihpihoaaGreatDoorRd
import Derived.Test.YtjegjgdihpihoaaGreatDoorIn
namespace Go.Proofs.YtjegjgdihpihoaaGreatDoor
-- %in
open Go.ChangeShapes Go.WideShapes Go.ChangeAt Go.RowKit
set_option linter.unusedVariables false
set_option linter.unusedSimpArgs false
set_option maxRecDepth 20000
attribute [local irreducible] wpList

section
variable {B : Nat} {w0 W : World} {H H' : HB} {g : Nat} {R : Ending → World → Prop} {s : ByteArray} {k : Nat} {bad : Bool} {n : Int}
theorem hNumA (i : Nat) (hH : Hp B w0 W H) (hi : nthH H i = some (g, 83, true, [.one (.string s), .one (.int .i64 (k : Int)), .one (.bool bad)])) (hu : updH H i [.one (.string s), .one (.int .i64 ((rdK s k bad (wn n 8) : Nat) : Int)), .one (.bool (rdB s k bad (wn n 8)))] = some H')
    (hs : s.size ≤ 9223372036854775807) (hk : k ≤ s.size) (hR : ∀ W', Hp B w0 W' H' → R (.returned (.int .u64 (numL (rdS s k bad (wn n 8)).data.toList : Int))) W') : Calls Tryz.prog 49 #[.pointer (some ⟨g, 0, none⟩), .int .i64 n] W R :=
  callM i hH hi hu ⟨rfl, rfl, rfl, trivial⟩ (fun hr => Num_any hr hs hk) hR
theorem hTakeA (i : Nat) (hH : Hp B w0 W H) (hi : nthH H i = some (g, 83, true, [.one (.string s), .one (.int .i64 (k : Int)), .one (.bool bad)])) (hu : updH H i [.one (.string s), .one (.int .i64 ((rdK s k bad n.toNat : Nat) : Int)), .one (.bool (rdB s k bad n.toNat))] = some H')
    (hs : s.size ≤ 9223372036854775807) (hk : k ≤ s.size) (hn : n ≤ 9223372036854775807) (hR : ∀ W', Hp B w0 W' H' → R (.returned (.string (rdS s k bad n.toNat))) W') : Calls Tryz.prog 51 #[.pointer (some ⟨g, 0, none⟩), .int .i64 n] W R :=
  callM i hH hi hu ⟨rfl, rfl, rfl, trivial⟩ (fun hr => Take_any hr hs hk hn) hR
end
theorem rdS_le (s : ByteArray) (k : Nat) (b : Bool) (n : Nat) : (rdS s k b n).size ≤ n := by
  unfold rdS
  split
  · have := cut_size2 s k (k + n); omega
  · exact Nat.zero_le _
theorem rdS_four (s : ByteArray) (k : Nat) (b : Bool) (n : Nat) : (rdS s k b n).size = n ∨ (rdS s k b n).size = 0 := by
  unfold rdS
  split
  · rename_i h
    have h2 : k + n ≤ s.size := by unfold rdFits at h; simp at h; exact h.2
    rw [extract_size h2 (by omega)]
    left; omega
  · exact .inr rfl
def adR (b : ByteArray) : Ad := if h : b.size = 4 then ⟨false, adOf b, adOf_length (by omega)⟩ else if h : b.size = 16 then ⟨true, adOf b, adOf_length (by omega)⟩ else Ad.z
theorem adR_four {b : ByteArray} (h : b.size = 4) : adL (adR b) = addrL false (adOf b) := by unfold adR adL; rw [dif_pos h]
theorem adR_six {b : ByteArray} (h : b.size = 16) : adL (adR b) = addrL true (adOf b) := by unfold adR adL; rw [dif_neg (by omega), dif_pos h]
theorem adR_none {b : ByteArray} (h : b.size = 0) : adR b = Ad.z := by unfold adR; rw [dif_neg (by omega), dif_neg (by omega)]
theorem aRead_r {b : ByteArray} (h : b.size = 4 ∨ b.size = 16 ∨ b.size = 0) : ∃ c : Int, ∀ w, Gives Tryz.prog 50 #[.string b] w (.tuple #[.agg (fls [.many (adL (adR b)) 17]).toArray, .int .i64 c]) := by
  rcases h with h | h | h
  · refine ⟨0, fun w => ?_⟩
    rw [adR_four h, addr_segs1]
    exact aRead_one (b := false) (by simpa using h)
  · refine ⟨0, fun w => ?_⟩
    rw [adR_six h, addr_segs1]
    exact aRead_one (b := true) (by simpa using h)
  · refine ⟨2, fun w => ?_⟩
    have e : b = ⟨#[]⟩ := by
      have := size_toList b
      rw [h] at this
      have : b = ByteArray.empty := by simpa using this
      exact this
    rw [adR_none h, adL_z, e]
    refine Gives.of ?_
    have hH := Hp.refl w
    go_enter Tryz.func50, Tryz.ntmps50
    go_wp2_with (first | ((first | (refine iL tab_ok rfl ?_ rfl hH ?_; (focus (first | exact wN rfl | exact rfl)); refine ⟨_, _, rfl, rfl, ?_⟩) | (refine iLi tab_ok rfl ?_ rfl hH ?_; (focus (first | exact wN rfl | exact rfl)); refine ⟨_, _, _, ?_, rfl, rfl, rfl, ?_, ?_⟩; rotate_left; (focus assumption)) | (refine iS1 tab_ok rfl ?_ rfl hH ?_; (focus (first | exact wN rfl | exact rfl)); refine ⟨_, _, _, _, rfl, rfl, rfl, rfl, rfl, ?_⟩) | (refine iSR tab_ok rfl ?_ rfl hH ?_; (focus (first | exact wN rfl | exact rfl)); refine ⟨_, _, _, _, rfl, rfl, rfl, rfl, rfl, ?_, ?_⟩; (focus (repeat (first | exact trivial | assumption | exact OkA.z (by kernel_rfl) (by kernel_rfl) | refine ⟨rfl, ?_⟩ | refine ⟨?_, ?_⟩)))) | (refine hAl tab_ok rfl ?_ hH rfl ?_; (focus (first | exact wN rfl | exact rfl))) | (refine hBx1 rfl ?_ rfl hH ?_; (focus (first | exact wN rfl | exact rfl))) | (refine hBx rfl ?_ rfl hH ?_ ?_; (focus (first | exact wN rfl | exact rfl)); (focus (repeat (first | exact trivial | assumption | exact OkA.z (by kernel_rfl) (by kernel_rfl) | refine ⟨rfl, ?_⟩ | refine ⟨?_, ?_⟩)))) | (refine hBd tab_ok rfl ?_ rfl rfl rfl hH ?_; (focus (first | exact wN rfl | exact rfl)); refine ⟨?_, ?_, ?_⟩; rotate_left; (focus (repeat (first | exact BR.nil | refine BR.one rfl rfl rfl ?_ | (refine BR.row rfl rfl rfl rfl ?_ ?_; (focus (repeat (first | exact trivial | assumption | exact OkA.z (by kernel_rfl) (by kernel_rfl) | refine ⟨rfl, ?_⟩ | refine ⟨?_, ?_⟩))))))))); clear hH; (first | intro W g hH | intro W hH); ((try simp only [Act.put, pA, pB, pC]))))
    (refine iRet2 Tryz.results50 tab_ok rfl rfl hH ?_; refine ⟨_, _, rfl, rfl, rfl, ?_⟩)
    exact ⟨rfl, hH.below⟩
theorem dAt_any {g : Nat} {s : ByteArray} {k : Nat} {bad : Bool} {w : World} (hr : Rd w g s k bad) : Gives Tryz.prog 53 #[.pointer (some ⟨g, 0, none⟩)] w (.int .i64 (k : Int)) := by
  refine Gives.of ?_
  have c1 := hr.c1
  clear hr
  go_enter Tryz.func53, Tryz.ntmps53
  go_wp2
  go_ret
  exact ⟨rfl, by (first | ((repeat (with_reducible first | assumption | exact Below.refl _ _ | (refine below_bw _ ?_ ?_; rotate_left; focus (((repeat (with_reducible first | assumption | exact Nat.le_refl _ | refine BW.le_of ?_ | refine le_alloc ?_ | refine le_drew ?_ | refine le_drewN ?_ | refine le_set ?_ | refine le_plus ?_ | omega | refine le_setA ?_)); done))) | (refine Below.alloc ?_ ?_ _; rotate_left; focus (((repeat (with_reducible first | assumption | exact Nat.le_refl _ | refine BW.le_of ?_ | refine le_alloc ?_ | refine le_drew ?_ | refine le_drewN ?_ | refine le_set ?_ | refine le_plus ?_ | omega | refine le_setA ?_)); done))) | (refine Below.setCell ?_ ?_ _; rotate_left; focus (((repeat (with_reducible first | assumption | exact Nat.le_refl _ | refine BW.le_of ?_ | refine le_alloc ?_ | refine le_drew ?_ | refine le_drewN ?_ | refine le_set ?_ | refine le_plus ?_ | omega | refine le_setA ?_)); done))) | refine Below.drew ?_ | refine below_drewN ?_ _ | (refine below_setCells ?_ ?_ _ _; rotate_left; focus (((repeat (with_reducible first | assumption | exact Nat.le_refl _ | refine BW.le_of ?_ | refine le_alloc ?_ | refine le_drew ?_ | refine le_drewN ?_ | refine le_set ?_ | refine le_plus ?_ | omega | refine le_setA ?_)); done))))); done) | (simp; done) | (repeat (first | assumption | exact Below.refl _ _ | (refine below_bw _ ?_ ?_; rotate_left; focus ((first | omega | (repeat (first | with_reducible assumption | with_reducible exact Nat.le_refl _ | refine BW.le_of ?_ | refine le_alloc ?_ | refine le_drew ?_ | refine le_drewN ?_ | refine le_set ?_ | refine le_plus ?_ | assumption | exact Nat.le_refl _))))) | (refine Below.alloc ?_ ?_ _; rotate_left; focus ((first | omega | (repeat (first | with_reducible assumption | with_reducible exact Nat.le_refl _ | refine BW.le_of ?_ | refine le_alloc ?_ | refine le_drew ?_ | refine le_drewN ?_ | refine le_set ?_ | refine le_plus ?_ | assumption | exact Nat.le_refl _))))) | (refine Below.setCell ?_ ?_ _; rotate_left; focus ((first | omega | (repeat (first | with_reducible assumption | with_reducible exact Nat.le_refl _ | refine BW.le_of ?_ | refine le_alloc ?_ | refine le_drew ?_ | refine le_drewN ?_ | refine le_set ?_ | refine le_plus ?_ | assumption | exact Nat.le_refl _))))) | refine Below.drew ?_ | refine below_drewN ?_ _ | (refine below_setCells ?_ ?_ _ _; rotate_left; focus ((first | omega | (repeat (first | with_reducible assumption | with_reducible exact Nat.le_refl _ | refine BW.le_of ?_ | refine le_alloc ?_ | refine le_drew ?_ | refine le_drewN ?_ | refine le_set ?_ | refine le_plus ?_ | assumption | exact Nat.le_refl _))))))))⟩
section
variable {P : Program} {T : Tab} {B : Nat} {w0 W : World} {H : HB} {g : Nat} {t ty : TypeId} {b : Bool} {S S2 : List Seg} {e : TyE} {a : Act}
theorem retC3 {fn : Func} {p q q2 : Tmp} {R : Ending → World → Prop} (h : fn.results = #[.cell p ty, .tmp q, .tmp q2]) (hT : TabOk P T) (i : Nat) (hp : a.tmps.getD p undef = .pointer (some ⟨g, 0, none⟩)) (h0 : a.defers = [])
    (hH : Hp B w0 W H) (hi : nthH H i = some (g, t, b, S)) (hty : findT ty T = some e) (hr : e.row = true) (hl : partS S 0 e.size = some S2) (hR : R (.returned (.tuple #[.agg (fls S2).toArray, a.tmps.getD q undef, a.tmps.getD q2 undef])) W) : bodyPost P fn R .ret a W := by
  obtain ⟨_, pre, post, h1, h2, h3⟩ := partS_ok (hH.rows.mem hi).2.1 hl
  obtain ⟨d, hu, hd⟩ := rowT_true (by rw [(hT.find hty).row, hr])
  have hs := (hT.find hty).size
  unfold sizeT at hs
  refine bodyPost_ret ?_ h0 hR
  have hl := run_loadVar_mid (P := P) W g 0 ty (fls S2) d (range_of hH hi ⟨pre, post, h1, h2⟩) hu hd (by rw [hs, h3])
  have hp' : a.tmps[p]?.getD undef = .pointer (some ⟨g, 0, none⟩) := by simpa using hp
  simp [results, h, hp', asAddr, hl, Sem.run_bind, Result.andThen]
end
/-- where a reader stands: its place, whether it went too far -/
abbrev Rp := Nat × Bool
def rdP (s : ByteArray) (n : Nat) (t : Rp) : Rp := (rdK s t.1 t.2 n, rdB s t.1 t.2 n)
def nmP (s : ByteArray) (n : Nat) (t : Rp) : Nat := numL (rdS s t.1 t.2 n).data.toList
def adP (s : ByteArray) (n : Nat) (t : Rp) : Ad := adR (rdS s t.1 t.2 n)
def wdF (v : Nat) : Nat := if v / 4 % 2 = 1 then 16 else 4
def srP (s : ByteArray) (wd : Nat) : Nat → List Ad → Rp → List Ad × Rp
  | 0, L, t => (L, t)
  | m + 1, L, t => if t.2 then (L, t) else srP s wd m (L ++ [adP s wd t]) (rdP s wd t)
def rawC (s : ByteArray) : Ch × Rp :=
  let v := nmP s 1 (0, false)
  let t1 := rdP s 1 (0, false)
  let t2 := rdP s 2 t1
  let t3 := rdP s (wdF v) t2
  let r := srP s (wdF v) (nmP s 1 t3) [] (rdP s 1 t3)
  (⟨⟨(nmP s 2 t1 : Int), adP s (wdF v) t2, decide (v / 2 % 2 = 1), r.1⟩, decide (v % 2 = 1)⟩, r.2)
def Ch.z : Ch := ⟨⟨0, Ad.z, false, []⟩, false⟩
open Classical in
noncomputable def readC (s : ByteArray) : Ch × Nat × Int :=
  let r := rawC s
  if r.2.2 then (Ch.z, 0, 3) else if goodC r.1 && decide (writeC r.1 = s.extract 0 r.2.1) then (r.1, r.2.1, 0) else (Ch.z, 0, 2)
theorem nmP_lt (s : ByteArray) (n : Nat) (t : Rp) : nmP s n t < 256 ^ n := by
  unfold nmP
  refine Nat.lt_of_lt_of_le (numL_lt _) (Nat.pow_le_pow_right (by omega) ?_)
  rw [size_toList]
  exact rdS_le _ _ _ _
theorem rdP_k {s : ByteArray} {n : Nat} {t : Rp} (h : t.1 ≤ s.size) : (rdP s n t).1 ≤ s.size := rdK_le _ _ h
theorem srP_k {s : ByteArray} {wd : Nat} : ∀ {m : Nat} {L : List Ad} {t : Rp}, t.1 ≤ s.size → (srP s wd m L t).2.1 ≤ s.size
  | 0, L, t, h => h
  | m + 1, L, t, h => by
    unfold srP
    split
    · exact h
    · exact srP_k (rdP_k h)
theorem andD (v : Nat) (h : v < 256) : bits .and .u64 (v : Int) 1 = (((if v % 2 = 1 then 1 else 0 : Nat)) : Int) ∧ bits .and .u64 (v : Int) 2 = (((if v / 2 % 2 = 1 then 2 else 0 : Nat)) : Int) ∧ bits .and .u64 (v : Int) 4 = (((if v / 4 % 2 = 1 then 4 else 0 : Nat)) : Int) := by
  have e1 := u64_and_nat v 1 (by omega) (by omega)
  have e2 := u64_and_nat v 2 (by omega) (by omega)
  have e4 := u64_and_nat v 4 (by omega) (by omega)
  rw [show ((1 : Nat) : Int) = 1 from rfl] at e1
  rw [show ((2 : Nat) : Int) = 2 from rfl] at e2
  rw [show ((4 : Nat) : Int) = 4 from rfl] at e4
  rw [e1, e2, e4]
  have a : ∀ v : Fin 256, (v.val &&& 1 = if v.val % 2 = 1 then 1 else 0) ∧ (v.val &&& 2 = if v.val / 2 % 2 = 1 then 2 else 0) ∧ (v.val &&& 4 = if v.val / 4 % 2 = 1 then 4 else 0) := by decide
  have a := a ⟨v, h⟩
  exact ⟨congrArg _ a.1, congrArg _ a.2.1, congrArg _ a.2.2⟩
/-- what the reader's methods do, as facts that stay whole -/
def NumR (B : Nat) (w0 : World) (s : ByteArray) (n : Int) (k : Nat) (b : Bool) (v k' : Nat) (b' : Bool) : Prop :=
  ∀ (W : World) (H H2 : HB) (Q : Ending → World → Prop) (x : Int) (gr j : Nat), x = n → Hp B w0 W H → nthH H j = some (gr, 83, true, [.one (.string s), .one (.int .i64 (k : Int)), .one (.bool b)]) → updH H j [.one (.string s), .one (.int .i64 (k' : Int)), .one (.bool b')] = some H2 → (∀ W', Hp B w0 W' H2 → Q (.returned (.int .u64 (v : Int))) W') → Calls Tryz.prog 49 #[.pointer (some ⟨gr, 0, none⟩), .int .i64 x] W Q
def TakR (B : Nat) (w0 : World) (s : ByteArray) (n : Int) (k : Nat) (b : Bool) (S : ByteArray) (k' : Nat) (b' : Bool) : Prop :=
  ∀ (W : World) (H H2 : HB) (Q : Ending → World → Prop) (x : Int) (gr j : Nat), x = n → Hp B w0 W H → nthH H j = some (gr, 83, true, [.one (.string s), .one (.int .i64 (k : Int)), .one (.bool b)]) → updH H j [.one (.string s), .one (.int .i64 (k' : Int)), .one (.bool b')] = some H2 → (∀ W', Hp B w0 W' H2 → Q (.returned (.string S)) W') → Calls Tryz.prog 51 #[.pointer (some ⟨gr, 0, none⟩), .int .i64 x] W Q
section
variable {B : Nat} {w0 W w : World} {H : HB} {g : Nat} {s : ByteArray} {k : Nat} {bad : Bool} {Q : Ending → World → Prop}
theorem numR {n : Nat} (hn : n ≤ 8) (hs : s.size ≤ 100000) (hk : k ≤ s.size) : NumR B w0 s (n : Int) k bad (nmP s n (k, bad)) (rdK s k bad n) (rdB s k bad n) := fun W H H2 Q x gr j hx hH h1 h2 hQ => by
  subst hx
  have hw : wn (n : Int) 8 = n := by unfold wn within; split; omega; split <;> omega
  refine hNumA (s := s) (k := k) (bad := bad) (n := (n : Int)) j hH h1 (by rw [hw]; exact h2) (by omega) hk ?_
  rw [hw]
  exact hQ
theorem takR {n : Nat} (hn : n ≤ 100) (hs : s.size ≤ 100000) (hk : k ≤ s.size) : TakR B w0 s (n : Int) k bad (rdS s k bad n) (rdK s k bad n) (rdB s k bad n) := fun W H H2 Q x gr j hx hH h1 h2 hQ => by
  subst hx
  exact hTakeA (s := s) (k := k) (bad := bad) (n := (n : Int)) j hH h1 h2 (by omega) hk (by omega) hQ
theorem hAt (i : Nat) (hH : Hp B w0 W H) (hi : nthH H i = some (g, 83, true, [.one (.string s), .one (.int .i64 (k : Int)), .one (.bool bad)])) (hR : ∀ W', Hp B w0 W' H → Q (.returned (.int .i64 (k : Int))) W') : Calls Tryz.prog 53 #[.pointer (some ⟨g, 0, none⟩)] W Q :=
  callR i hH hi (fun hr => dAt_any hr) hR
end
theorem i64_small {n : Nat} (h : n < 9223372036854775808) : IntKind.i64.wrap (n : Int) = (n : Int) := by rw [IntKind.wrap_i64]; omega
/-- a reader's step, its parts made variables -/
theorem numX {B : Nat} {w0 : World} {s : ByteArray} {n : Nat} (hn : n ≤ 8) (hs : s.size ≤ 100000) {k : Nat} (b : Bool) (hk : k ≤ s.size) : ∃ v k' b', nmP s n (k, b) = v ∧ rdP s n (k, b) = (k', b') ∧ v < 256 ^ n ∧ k' ≤ s.size ∧ NumR B w0 s (n : Int) k b v k' b' :=
  ⟨_, _, _, rfl, rfl, nmP_lt _ _ _, rdK_le _ _ hk, numR hn hs hk⟩
theorem takX {B : Nat} {w0 : World} {s : ByteArray} {n : Nat} (hn : n = 4 ∨ n = 16) (hs : s.size ≤ 100000) {k : Nat} (b : Bool) (hk : k ≤ s.size) : ∃ S a k' b' c, adP s n (k, b) = a ∧ rdP s n (k, b) = (k', b') ∧ k' ≤ s.size ∧ TakR B w0 s (n : Int) k b S k' b' ∧ ∀ w, Gives Tryz.prog 50 #[.string S] w (.tuple #[.agg (fls [.many (adL a) 17]).toArray, .int .i64 c]) := by
  obtain ⟨c, hc⟩ := aRead_r (b := rdS s k b n) (by rcases rdS_four s k b n with h | h <;> omega)
  exact ⟨_, _, _, _, c, rfl, rfl, rdK_le _ _ hk, takR (by omega) hs hk, hc⟩
theorem srP_more {s : ByteArray} {wd m : Nat} {L : List Ad} {k : Nat} : srP s wd (m + 1) L (k, false) = srP s wd m (L ++ [adP s wd (k, false)]) (rdP s wd (k, false)) := by
  conv => lhs; unfold srP
  rfl
theorem srP_end {s : ByteArray} {wd m : Nat} {L : List Ad} {k : Nat} {b : Bool} (h : m = 0 ∨ b = true) : srP s wd m L (k, b) = (L, (k, b)) := by
  rcases h with rfl | rfl
  · rfl
  · cases m <;> rfl
end Go.Proofs.YtjegjgdihpihoaaGreatDoor
