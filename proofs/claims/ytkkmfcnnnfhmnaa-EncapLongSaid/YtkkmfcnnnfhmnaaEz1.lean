/-
  Plain: a frame's bytes are that frame; the contract of the laws' 'lives'.
-/
import Derived.Test.YtkkmfcnnnfhmnaaRows
import Derived.Test.YtkkmfcnnnfhmnaaEv
namespace Go.Proofs.Ytkkmfcnnnfhmnaa
open Go.ChangeShapes Go.WideShapes Go.ChangeAt Go.RowKit
set_option linter.unusedVariables false
set_option linter.unusedSimpArgs false
attribute [local irreducible] wpList

theorem own : ownKnob Try.prog.godebug = none := by kernel_rfl
theorem adOf_bytesA {v : Bool} {l : List UInt8} (hl : l.length = 16) (hg : goodA v l = true) {x : ByteArray} (hx : x.data.toList = bytesA v l) : adOf x = l := by
  have hs : x.size = (bytesA v l).length := by rw [← size_toList, hx]
  unfold adOf
  rw [hx, hs, bytesA_len hl]
  cases v
  · simp only [bytesA, Bool.false_eq_true, if_false]
    have : l.drop 4 = List.replicate 12 0 := by
      unfold goodA at hg
      simpa using hg
    rw [show 16 - 4 = 12 from rfl, ← this, List.take_append_drop]
  · simp only [bytesA, if_true]
    simp
set_option maxRecDepth 100000 in
theorem back36 {ver vl rt hp : Nat} {v : Bool} {l : List UInt8} {b : ByteArray} (h1 : ver < 4294967296) (h2 : vl < 65536) (h3 : rt < 65536) (h4 : hp < 256) (hb : b.size < 65536) (hl : l.length = 16) (hg : goodA v l = true) {s : ByteArray} (hs : s = wNN ver vl v l rt hp b) :
    preT s = (if 1600 < b.size then 6 else 0) ∧ tOf s = ⟨ver, vl, v, l, rt, hp, b⟩ ∧ s.size = 16 + (if v then 16 else 4) + b.size := by
  obtain ⟨B, hB⟩ : ∃ B, wB ver vl v l rt b = B := ⟨_, rfl⟩
  obtain ⟨c, hc⟩ : ∃ c, ckT v hp B = c := ⟨_, rfl⟩
  have hcl := ckT_lt v hp B
  have hbl := bytesA_len (v := v) hl
  have hBl : B.data.toList = putL ver 4 ++ (putL vl 2 ++ (putL rt 2 ++ (putL b.size 2 ++ (bytesA v l ++ b.data.toList)))) := by rw [← hB]; unfold wB; simp [toList_append]
  have hw : wNN ver vl v l rt hp b = wA v hp ++ str (putL c 2) ++ B := by rw [← hc, ← hB]; rfl
  rw [hw] at hs
  have hL : s.data.toList = aL v hp ++ (putL c 2 ++ B.data.toList) := by rw [hs]; simp [toList_append, wA_list]
  have hf : foldN (wsum s.data.toList) = 65535 := by
    rw [hL, wsum_aL v hp h4, wsum_append (by rw [putL_length]), wsum_two _ (putL_length _ _), numL_putL, Nat.mod_eq_of_lt (show c < 256 ^ 2 by rw [← hc]; exact hcl)]
    have hc' : c = 65535 - foldN (77 * 256 + (if v then 1 else 0) + hp * 256 + wsum B.data.toList) := by
      rw [← hc]
      unfold ckT
      rw [show flat [wA v hp, B] = aL v hp ++ B.data.toList by simp [flat, wA_list], wsum_aL v hp h4]
    generalize wsum B.data.toList = R at *
    generalize hX : 77 * 256 + (if v then 1 else 0) + hp * 256 = X at *
    have hX0 : 0 < X := by rw [← hX]; omega
    clear hX
    have hF := foldN_le (X + R)
    have hm : foldN (X + R) % 65535 = (X + R) % 65535 := by unfold foldN; split <;> omega
    rw [show X + (c + R) = (X + R) + c by omega]
    have hp : (X + R) + c ≠ 0 := by omega
    have hd : ((X + R) + c) % 65535 = 0 := by omega
    unfold foldN
    rw [if_neg hp]
    omega
  have a0 : by6 s 0 = 77 := by unfold by6; rw [hL]; rfl
  have a1 : by6 s 1 = if v then 1 else 0 := by unfold by6; rw [hL]; cases v <;> rfl
  have a2 : by6 s 2 = hp := by unfold by6; rw [hL]; exact byteAt1 h4
  have d6 : s.data.toList.drop 6 = B.data.toList := by rw [hL, ← List.append_assoc]; exact drop_app (by simp [putL_length, aL])
  have d10 : s.data.toList.drop 10 = putL vl 2 ++ (putL rt 2 ++ (putL b.size 2 ++ (bytesA v l ++ b.data.toList))) := by rw [show 10 = 6 + 4 from rfl, ← List.drop_drop, d6, hBl]; exact drop_app (putL_length _ _)
  have d12 : s.data.toList.drop 12 = putL rt 2 ++ (putL b.size 2 ++ (bytesA v l ++ b.data.toList)) := by rw [show 12 = 10 + 2 from rfl, ← List.drop_drop, d10]; exact drop_app (putL_length _ _)
  have d14 : s.data.toList.drop 14 = putL b.size 2 ++ (bytesA v l ++ b.data.toList) := by rw [show 14 = 12 + 2 from rfl, ← List.drop_drop, d12]; exact drop_app (putL_length _ _)
  have d16 : s.data.toList.drop 16 = bytesA v l ++ b.data.toList := by rw [show 16 = 14 + 2 from rfl, ← List.drop_drop, d14]; exact drop_app (putL_length _ _)
  have n6 : numAt s 6 4 = ver := by unfold numAt; rw [d6, hBl, take_app (putL_length _ _), numL_putL]; exact Nat.mod_eq_of_lt h1
  have n10 : numAt s 10 2 = vl := by unfold numAt; rw [d10, take_app (putL_length _ _), numL_putL]; exact Nat.mod_eq_of_lt h2
  have n12 : numAt s 12 2 = rt := by unfold numAt; rw [d12, take_app (putL_length _ _), numL_putL]; exact Nat.mod_eq_of_lt h3
  have n14 : numAt s 14 2 = b.size := by unfold numAt; rw [d14, take_app (putL_length _ _), numL_putL]; exact Nat.mod_eq_of_lt hb
  have hwd : wdT s = if v then 16 else 4 := by unfold wdT; rw [a1]; cases v <;> rfl
  have hsz : szT s = b.size := n14
  have hz : s.size = 16 + (if v then 16 else 4) + b.size := by
    have := congrArg List.length d16
    rw [List.length_drop, List.length_append, hbl, size_toList, size_toList] at this
    have hle : 16 ≤ s.size := by rw [← size_toList, hL]; simp [putL_length, aL, hBl, size_toList]; omega
    omega
  have hx : (s.extract 16 (16 + wdT s)).data.toList = bytesA v l := by
    rw [toList_extract, d16, show 16 + wdT s - 16 = wdT s by omega]
    exact take_app (by rw [hbl, hwd])
  have hbx : s.extract (16 + wdT s) (16 + wdT s + szT s) = b := by
    rw [← str_of (s.extract _ _), ← str_of b, toList_extract]
    congr 1
    rw [← List.drop_drop, d16, drop_app (by rw [hbl, hwd]), hsz, show 16 + wdT s + b.size - (16 + wdT s) = b.size by omega]
    exact List.take_of_length_le (by rw [size_toList]; omega)
  refine ⟨?_, ?_, hz⟩
  · unfold preT
    rw [if_neg (by rw [hz]; split <;> omega), if_neg (by rw [a0]; simp), if_neg (by rw [hf]; simp), if_neg (by rw [hz, hwd, hsz]; omega), hsz]
  · unfold tOf
    rw [n6, n10, n12, a2, hbx, adOf_bytesA hl hg hx, a1]
    cases v <;> rfl
/-- a good one -/
theorem back36_p {p : Tn} (h : p.Ok) (r : p.Rg) (g : gT p = true) : errT (wT p) = 0 ∧ tnOf (wT p) = p ∧ (wT p).size = 16 + (if p.v then 16 else 4) + p.b.size := by
  have g' := g
  obtain ⟨vl, rt, hp, e, h1, h2, h3, h4⟩ := gT_in g
  have ga : goodA p.v p.l = true := by
    unfold gT at g
    simp only [Bool.and_eq_true] at g
    exact g.1.1.1.1.1
  have hv := r.ver
  have hl := h.l
  have hwe : wT p = wNN p.ver vl p.v p.l rt hp p.b := by rw [e]; rfl
  obtain ⟨k1, k2, k3⟩ := back36 hv (by omega) (by omega) (by omega) (by omega) hl ga hwe
  rw [if_neg (by omega)] at k1
  rw [← e] at k2
  have hb : ¬ badT (wT p) := by
    rintro (hb | hb)
    · rw [k2, g'] at hb; exact absurd hb (by decide)
    · rw [k2] at hb; exact hb rfl
  have ee : errT (wT p) = 0 := by unfold errT; rw [if_neg (by rw [k1]; decide), if_neg hb]
  exact ⟨ee, by rw [tnOf_ok0 ee, k2], k3⟩
theorem wT_size {p : Tn} (h : p.Ok) (r : p.Rg) (g : gT p = true) : (wT p).size ≤ 2000 := by
  obtain ⟨_, _, k3⟩ := back36_p h r g
  obtain ⟨vl, rt, hp, e, h1, h2, h3, h4⟩ := gT_in g
  rw [k3]
  split <;> omega
def T0 : Tn := ⟨9, (5 : Nat), false, zero16, (3 : Nat), (2 : Nat), ⟨#[120]⟩⟩
def T1 : Tn := ⟨9, (5 : Nat), false, zero16, (3 : Nat), (1 : Nat), ⟨#[120]⟩⟩
theorem T0_ok : T0.Ok := ⟨rfl⟩
theorem T1_ok : T1.Ok := ⟨rfl⟩
theorem T0_rg : T0.Rg := ⟨by decide, ⟨by decide, by decide⟩, ⟨by decide, by decide⟩, ⟨by decide, by decide⟩, by decide⟩
theorem T1_rg : T1.Rg := ⟨by decide, ⟨by decide, by decide⟩, ⟨by decide, by decide⟩, ⟨by decide, by decide⟩, by decide⟩
theorem T0_good : gT T0 = true := by decide
theorem T1_good : gT T1 = true := by decide
theorem lives36_any {w : World} : Gives Try.prog 10 #[] w (.bool true) := by
  obtain ⟨e0, q0, z0⟩ := back36_p T0_ok T0_rg T0_good
  obtain ⟨e1, q1, z1⟩ := back36_p T1_ok T1_rg T1_good
  have s0 := wT_size T0_ok T0_rg T0_good
  have s1 := wT_size T1_ok T1_rg T1_good
  have hq : tOf (wT T0) = T0 := by rw [← tnOf_ok0 e0]; exact q0
  have b2 : by6 (wT T0) 2 = 2 := by
    have : ((by6 (wT T0) 2 : Nat) : Int) = 2 := congrArg Tn.hop hq
    omega
  have hh : hop36 (wT T0) = wT T1 := by
    rw [hop36_w e0 (by omega), hq, b2]
    rfl
  have hW : ∀ w, Gives Try.prog 12 #[.agg T0.L.toArray] w (.tuple #[.string (wT T0), .int .i64 0]) := fun w => by
    have := Write36_any (w := w) T0_ok T0_rg
    rwa [if_pos T0_good] at this
  have hP : ∀ w, Gives Try.prog 8 #[.string (wT T0)] w (.tuple #[.string (wT T1), .int .i64 0]) := fun w => by
    have := Hop36_ok (w := w) (s := wT T0) (by omega) e0 (by omega)
    rwa [hh] at this
  have hR : ∀ w, Gives Try.prog 13 #[.string (wT T1)] w (.tuple #[.agg T1.L.toArray, .int .i64 0]) := fun w => by
    have := Read36_any (w := w) (s := wT T1) (by omega)
    rwa [e1, q1] at this
  have E0 : T0.L.toArray = (fls [.one (.int .u32 9), .one (.int .i64 5), .many (zeroL Try.prog 29) 17, .one (.int .i64 3), .one (.int .i64 2), .one (.string ⟨#[120]⟩)]).toArray := by rw [← zaddr, tn_segs]; rfl
  have E1 : T1.L.toArray = (fls [.one (.int .u32 9), .one (.int .i64 5), .many (zeroL Try.prog 29) 17, .one (.int .i64 3), .one (.int .i64 1), .one (.string ⟨#[120]⟩)]).toArray := by rw [← zaddr, tn_segs]; rfl
  rw [E0] at hW
  rw [E1] at hR
  have zz : (wT T0).size = 21 := z0
  clear e0 q0 z0 e1 q1 z1 hq b2 hh E0 E1
  generalize wT T0 = X at *
  generalize wT T1 = Y at *
  have oA : OkA (zeroL Try.prog 29) 17 := by rw [← zaddr]; exact okA_addr rfl
  refine Gives.of ?_
  have hH := Hp.refl w
  go_enter Try.func10, Try.ntmps10
  go_wp2_with (first | ((first | (refine gL rfl ?_; first | (refine hL1 tab_ok 0 rfl ?_ rfl hH rfl rfl rfl rfl ?_; (focus (first | exact wN rfl | exact rfl))) | (refine hL1 tab_ok 1 rfl ?_ rfl hH rfl rfl rfl rfl ?_; (focus (first | exact wN rfl | exact rfl))) | (refine hL1 tab_ok 2 rfl ?_ rfl hH rfl rfl rfl rfl ?_; (focus (first | exact wN rfl | exact rfl))) | (refine hL1 tab_ok 3 rfl ?_ rfl hH rfl rfl rfl rfl ?_; (focus (first | exact wN rfl | exact rfl))) | (refine hLR tab_ok 0 rfl ?_ rfl hH rfl rfl rfl rfl ?_; (focus (first | exact wN rfl | exact rfl))) | (refine hLR tab_ok 1 rfl ?_ rfl hH rfl rfl rfl rfl ?_; (focus (first | exact wN rfl | exact rfl))) | (refine hLR tab_ok 2 rfl ?_ rfl hH rfl rfl rfl rfl ?_; (focus (first | exact wN rfl | exact rfl))) | (refine hLR tab_ok 3 rfl ?_ rfl hH rfl rfl rfl rfl ?_; (focus (first | exact wN rfl | exact rfl))) | (refine hL1i tab_ok 0 rfl ?_ rfl hH rfl rfl rfl rfl ?_; (focus (first | exact wN rfl | exact rfl)); refine ⟨?_, ?_, ?_⟩; rotate_left; (focus assumption)) | (refine hL1i tab_ok 1 rfl ?_ rfl hH rfl rfl rfl rfl ?_; (focus (first | exact wN rfl | exact rfl)); refine ⟨?_, ?_, ?_⟩; rotate_left; (focus assumption)) | (refine hL1i tab_ok 2 rfl ?_ rfl hH rfl rfl rfl rfl ?_; (focus (first | exact wN rfl | exact rfl)); refine ⟨?_, ?_, ?_⟩; rotate_left; (focus assumption)) | (refine hL1i tab_ok 3 rfl ?_ rfl hH rfl rfl rfl rfl ?_; (focus (first | exact wN rfl | exact rfl)); refine ⟨?_, ?_, ?_⟩; rotate_left; (focus assumption))) | (refine gS rfl ?_; first | (refine hS1 tab_ok 0 rfl ?_ rfl rfl hH rfl rfl rfl rfl rfl ?_; (focus (first | exact wN rfl | exact rfl))) | (refine hS1 tab_ok 1 rfl ?_ rfl rfl hH rfl rfl rfl rfl rfl ?_; (focus (first | exact wN rfl | exact rfl))) | (refine hS1 tab_ok 2 rfl ?_ rfl rfl hH rfl rfl rfl rfl rfl ?_; (focus (first | exact wN rfl | exact rfl))) | (refine hS1 tab_ok 3 rfl ?_ rfl rfl hH rfl rfl rfl rfl rfl ?_; (focus (first | exact wN rfl | exact rfl))) | (refine hSR tab_ok 0 rfl ?_ rfl rfl hH rfl rfl rfl rfl rfl ?_ ?_; (focus (first | exact wN rfl | exact rfl)); (focus (repeat (first | exact trivial | assumption | exact OkA.z (by kernel_rfl) (by kernel_rfl) | refine ⟨rfl, ?_⟩ | refine ⟨?_, ?_⟩)))) | (refine hSR tab_ok 1 rfl ?_ rfl rfl hH rfl rfl rfl rfl rfl ?_ ?_; (focus (first | exact wN rfl | exact rfl)); (focus (repeat (first | exact trivial | assumption | exact OkA.z (by kernel_rfl) (by kernel_rfl) | refine ⟨rfl, ?_⟩ | refine ⟨?_, ?_⟩)))) | (refine hSR tab_ok 2 rfl ?_ rfl rfl hH rfl rfl rfl rfl rfl ?_ ?_; (focus (first | exact wN rfl | exact rfl)); (focus (repeat (first | exact trivial | assumption | exact OkA.z (by kernel_rfl) (by kernel_rfl) | refine ⟨rfl, ?_⟩ | refine ⟨?_, ?_⟩)))) | (refine hSR tab_ok 3 rfl ?_ rfl rfl hH rfl rfl rfl rfl rfl ?_ ?_; (focus (first | exact wN rfl | exact rfl)); (focus (repeat (first | exact trivial | assumption | exact OkA.z (by kernel_rfl) (by kernel_rfl) | refine ⟨rfl, ?_⟩ | refine ⟨?_, ?_⟩))))) | (refine hAl tab_ok rfl ?_ hH rfl ?_; (focus (first | exact wN rfl | exact rfl))) | (refine hBx1 rfl ?_ rfl hH ?_; (focus (first | exact wN rfl | exact rfl))) | (refine hBx rfl ?_ rfl hH ?_ ?_; (focus (first | exact wN rfl | exact rfl)); (focus (repeat (first | exact trivial | assumption | exact OkA.z (by kernel_rfl) (by kernel_rfl) | refine ⟨rfl, ?_⟩ | refine ⟨?_, ?_⟩)))) | (refine hBd tab_ok rfl ?_ rfl rfl rfl hH ?_; (focus (first | exact wN rfl | exact rfl)); refine ⟨?_, ?_, ?_⟩; rotate_left; (focus (repeat (first | exact BR.nil | refine BR.one rfl rfl rfl ?_ | (refine BR.row rfl rfl rfl rfl ?_ ?_; (focus (repeat (first | exact trivial | assumption | exact OkA.z (by kernel_rfl) (by kernel_rfl) | refine ⟨rfl, ?_⟩ | refine ⟨?_, ?_⟩)))))))) | ((with_reducible refine callH hH ?_); refine ⟨?_, ?_, ?_⟩; rotate_left; (focus (first | (with_reducible exact hW _) | (with_reducible exact hP _) | (with_reducible exact hR _))))); clear hH; (first | intro W g hH | intro W hH); (try simp only [Act.put, List.setIfInBounds_toArray, List.set_cons_succ, List.set_cons_zero])))
  go_ret
  exact ⟨rfl, hH.below⟩
end Go.Proofs.Ytkkmfcnnnfhmnaa
