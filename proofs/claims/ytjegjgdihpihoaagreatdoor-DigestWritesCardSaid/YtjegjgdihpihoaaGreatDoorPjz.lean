/-
  Pjz: Pi, Pj, Pm in one text.
-/
import Derived.Test.YtjegjgdihpihoaaGreatDoorR2
import Derived.Test.YtjegjgdihpihoaaGreatDoorR4
import Derived.Test.YtjegjgdihpihoaaGreatDoorIn
import Derived.Test.YtjegjgdihpihoaaGreatDoorE2
import Derived.Test.YtjegjgdihpihoaaGreatDoorHk
import Derived.Test.YtjegjgdihpihoaaGreatDoorOld
namespace Go.Proofs.YtjegjgdihpihoaaGreatDoor
-- %in
section
open Go.ChangeShapes Go.WideShapes Go.ChangeAt Go.RowKit
set_option linter.unusedVariables false
set_option linter.unusedSimpArgs false

theorem step_str (P X Z : List UInt8) {k n : Nat} (hk : P.length = k) (hn : X.length = n) : nmP (str (P ++ (X ++ Z))) n (k, false) = numL X ∧ adP (str (P ++ (X ++ Z))) n (k, false) = adR (str X) ∧ rdP (str (P ++ (X ++ Z))) n (k, false) = (k + n, false) := by
  have hs : (str (P ++ (X ++ Z))).size = k + (n + Z.length) := by rw [str_size]; simp [hk, hn]
  have e : rdFits (str (P ++ (X ++ Z))) k false n = true := by simp [rdFits, hs]
  have ex : (str (P ++ (X ++ Z))).extract k (k + n) = str X := by
    apply data_inj
    rw [toList_extract, str_toList, str_toList, Nat.add_sub_cancel_left, List.drop_append_of_le_length (by omega), List.drop_of_length_le (by omega), List.nil_append, List.take_append_of_le_length (by omega), List.take_of_length_le (by omega)]
  refine ⟨?_, ?_, ?_⟩
  · unfold nmP rdS
    rw [e, if_pos rfl, ex, str_toList]
  · unfold adP rdS
    rw [e, if_pos rfl, ex]
  · unfold rdP rdK rdB
    rw [e]
    rfl
theorem bytesA_len2 (a : Ad) : (bytesA a.v a.b).length = if a.v then 16 else 4 := by
  rw [bytesA_take a.h, List.length_take, a.h]
  split <;> rfl
theorem adR_bytes {a : Ad} (h : gdA a = true) : adR (str (bytesA a.v a.b)) = a := by
  obtain ⟨v, b, hb⟩ := a
  have hs : (str (bytesA v b)).size = if v then 16 else 4 := by rw [str_size]; exact bytesA_len2 ⟨v, b, hb⟩
  cases v
  · show adR (str (bytesA false b)) = _
    have hs4 : (str (bytesA false b)).size = 4 := by rw [hs]; rfl
    unfold adR
    rw [dif_pos hs4]
    apply Ad.ext2
    · rfl
    · unfold gdA goodA at h
      rw [Bool.false_or, beq_iff_eq] at h
      simp only [adOf, str_toList, hs4]
      show b.take 4 ++ List.replicate 12 0 = b
      rw [← h, List.take_append_drop]
  · show adR (str (bytesA true b)) = _
    have hs16 : (str (bytesA true b)).size = 16 := by rw [hs]; rfl
    unfold adR
    rw [dif_neg (by omega), dif_pos hs16]
    apply Ad.ext2
    · rfl
    · simp only [adOf, str_toList, hs16]
      show b ++ List.replicate 0 0 = b
      simp
theorem srP_str {v : Bool} : ∀ (L : List Ad) (P Z : List UInt8) (acc : List Ad) (k : Nat), P.length = k → (∀ a ∈ L, gdA a = true ∧ a.v = v) →
    srP (str (P ++ (srcB L ++ Z))) (if v then 16 else 4) L.length acc (k, false) = (acc ++ L, (k + (srcB L).length, false))
  | [], P, Z, acc, k, hk, _ => by simp [srP, srcB]
  | a :: L, P, Z, acc, k, hk, h => by
    obtain ⟨h1, h2⟩ := h a (by simp)
    have hl : (bytesA a.v a.b).length = if v then 16 else 4 := by rw [bytesA_len2, h2]
    have e : P ++ (srcB (a :: L) ++ Z) = P ++ (bytesA a.v a.b ++ (srcB L ++ Z)) := by simp [srcB]
    have e2 : P ++ (bytesA a.v a.b ++ (srcB L ++ Z)) = (P ++ bytesA a.v a.b) ++ (srcB L ++ Z) := by simp
    obtain ⟨_, s2, s3⟩ := step_str P (bytesA a.v a.b) (srcB L ++ Z) hk hl
    have ih := srP_str L (P ++ bytesA a.v a.b) Z (acc ++ [a]) (k + (if v then 16 else 4)) (by rw [List.length_append, hk, hl]) (fun x hx => h x (by simp [hx]))
    rw [e, List.length_cons, srP_more, s2, s3, adR_bytes h1, e2, ih]
    simp only [List.append_assoc, List.cons_append, List.nil_append, Prod.mk.injEq, true_and, and_true]
    simp only [srcB, List.flatMap_cons, List.length_append, hl]
    omega
theorem wdF_fl (g e v : Bool) : wdF (flN g e v) = (if v then 16 else 4) ∧ decide (flN g e v / 2 % 2 = 1) = e ∧ decide (flN g e v % 2 = 1) = g := by
  cases g <;> cases e <;> cases v <;> decide
theorem goodC_src {x : Ch} (h : goodC x = true) : gdA x.e.grp = true ∧ x.e.src.length ≤ 64 ∧ ∀ a ∈ x.e.src, gdA a = true ∧ a.v = x.e.grp.v := by
  unfold goodC at h
  split at h
  · simp only [Bool.and_eq_true] at h
    obtain ⟨h1, h2⟩ := h
    unfold placedE at h1
    simp only [Bool.and_eq_true] at h1
    have h0 : x.e.src.length = 0 := by unfold noneF at h2; simp at h2; simp [h2.2]
    exact ⟨h1.1.2, by omega, fun a ha => by rw [List.eq_nil_of_length_eq_zero h0] at ha; cases ha⟩
  · unfold oneE at h
    simp only [Bool.and_eq_true] at h
    obtain ⟨⟨⟨⟨h1, h2⟩, h3⟩, h4⟩, h5⟩ := h
    unfold placedE at h1
    simp only [Bool.and_eq_true] at h1
    refine ⟨h1.1.2, of_decide_eq_true h3, fun a ha => ⟨?_, ?_⟩⟩
    · obtain ⟨i, hi, rfl⟩ := List.mem_iff_getElem.1 ha
      by_cases hok : okAt x.e.src i
      · exact (hok hi).1
      · rw [goodL_false hok] at h2; cases h2
    · unfold allV at h4
      have := List.all_eq_true.1 h4 a ha
      simpa using this
theorem raw_back {x : Ch} (h : goodC x = true) (Z : List UInt8) : rawC (writeC x ++ str Z) = (x, ((writeC x).size, false)) := by
  obtain ⟨hg, hl, hs⟩ := goodC_src h
  have hv := goodC_vlan h
  obtain ⟨⟨vl, G, ex, L⟩, g⟩ := x
  simp only at hg hl hs hv
  obtain ⟨k, rfl⟩ : ∃ k : Nat, vl = k := ⟨vl.toNat, by omega⟩
  obtain ⟨f1, f2, f3⟩ := wdF_fl g ex G.v
  have hlG := bytesA_len2 G
  have e : writeC ⟨⟨(k : Int), G, ex, L⟩, g⟩ ++ str Z = str (putL (flN g ex G.v) 1 ++ (putL k 2 ++ (bytesA G.v G.b ++ (putL L.length 1 ++ (srcB L ++ Z))))) := by
    unfold writeC headC
    simp only [str_append, Int.toNat_natCast, List.append_assoc]
  have hsz : (writeC ⟨⟨(k : Int), G, ex, L⟩, g⟩).size = 3 + (if G.v then 16 else 4) + 1 + (srcB L).length := by
    unfold writeC headC
    simp only [str_append, str_size, List.length_append, putL_length, hlG]
  rw [e, hsz]
  obtain ⟨a1, _, a3⟩ := step_str [] (putL (flN g ex G.v) 1) (putL k 2 ++ (bytesA G.v G.b ++ (putL L.length 1 ++ (srcB L ++ Z)))) (k := 0) (n := 1) rfl (putL_length _ _)
  obtain ⟨b1, _, b3⟩ := step_str (putL (flN g ex G.v) 1) (putL k 2) (bytesA G.v G.b ++ (putL L.length 1 ++ (srcB L ++ Z))) (k := 1) (n := 2) (putL_length _ _) (putL_length _ _)
  obtain ⟨_, c2, c3⟩ := step_str (putL (flN g ex G.v) 1 ++ putL k 2) (bytesA G.v G.b) (putL L.length 1 ++ (srcB L ++ Z)) (k := 3) (n := if G.v then 16 else 4) (by rw [List.length_append, putL_length, putL_length]) hlG
  obtain ⟨d1, _, d3⟩ := step_str (putL (flN g ex G.v) 1 ++ putL k 2 ++ bytesA G.v G.b) (putL L.length 1) (srcB L ++ Z) (k := 3 + (if G.v then 16 else 4)) (n := 1) (by rw [List.length_append, List.length_append, putL_length, putL_length, hlG]) (putL_length _ _)
  have s := srP_str (v := G.v) L (putL (flN g ex G.v) 1 ++ putL k 2 ++ bytesA G.v G.b ++ putL L.length 1) Z [] (3 + (if G.v then 16 else 4) + 1) (by rw [List.length_append, List.length_append, List.length_append, putL_length, putL_length, hlG, putL_length]) hs
  simp only [List.append_assoc, List.nil_append] at a1 a3 b1 b3 c2 c3 d1 d3 s
  have n1 : numL (putL (flN g ex G.v) 1) = flN g ex G.v := by rw [numL_putL]; have := flN_lt g ex G.v; omega
  have n2 : numL (putL k 2) = k := by rw [numL_putL]; omega
  have n3 : numL (putL L.length 1) = L.length := by rw [numL_putL]; omega
  rw [n1] at a1
  rw [n2] at b1
  rw [n3] at d1
  rw [adR_bytes hg] at c2
  unfold rawC
  simp only
  rw [a1, a3, f1, f2, f3]
  simp only [Nat.zero_add]
  rw [b1, b3]
  simp only [Nat.reduceAdd]
  rw [c2, c3, d1, d3, s]
theorem read_back {x : Ch} (h : goodC x = true) (Z : List UInt8) : readC (writeC x ++ str Z) = (x, (writeC x).size, 0) := by
  unfold readC
  rw [raw_back h Z]
  have e : (writeC x ++ str Z).extract 0 (writeC x).size = writeC x := by
    apply data_inj
    rw [toList_extract, ← str_of (writeC x), str_append, str_toList, List.drop_zero, Nat.sub_zero, str_size, List.take_append_of_le_length (by omega), List.take_of_length_le (by omega), str_toList]
  simp only [e, h, decide_true, Bool.and_self, if_true, Bool.false_eq_true, if_false]
end
section
open Go.ChangeShapes Go.WideShapes Go.ChangeAt Go.RowKit
set_option linter.unusedVariables false
set_option linter.unusedSimpArgs false
set_option maxRecDepth 20000
attribute [local irreducible] wpList

section
variable {w : World} {p : Option Addr} {c : Nat} {x : Ch}
theorem rGoodC_any (h : AdsAt w p x.e.src) (hl : x.e.src.length ≤ 1000) : Gives Tryz.prog 7 #[.agg (fls (chS x p c)).toArray] w (.bool (goodC x)) := by
  refine Gives.of ?_
  obtain ⟨e, g⟩ := x
  simp only at h hl
  have hH := Hp.refl w
  have oG := adL_ok e.grp
  have f1 : ∀ w, Gives Tryz.prog 19 #[.agg (fls (enS e p c)).toArray] w (.bool (placedE e)) := fun w => rplaced_any
  have f3 : ∀ w, Gives Tryz.prog 20 #[.agg (fls (flS e.ex p e.src.length c)).toArray] w (.bool (noneF e.ex e.src.length)) := fun w => rnone_any
  have F2 := Lib.hid (fun W (hb : Below w.heap.size w W) => rOne_any (c := c) hl (h.below hb))
  clear h hl
  unfold goodC chS enS flS at *
  simp only at *
  generalize placedE e = pl at *
  generalize noneF e.ex e.src.length = nf at *
  generalize oneE e = oe at *
  generalize adL e.grp = G at *
  generalize e.src.length = m at *
  generalize e.ex = ex at *
  generalize e.vlan = k at *
  cases g
  · skip
    go_enter Tryz.func7, Tryz.ntmps7
    go_wp2_with (first | ((first | (refine iL tab_ok rfl ?_ rfl hH ?_; (focus (first | exact wN rfl | exact rfl)); refine ⟨_, _, rfl, rfl, ?_⟩) | (refine hBx rfl ?_ rfl hH ?_ ?_; (focus (first | exact wN rfl | exact rfl)); (focus (repeat (first | exact trivial | assumption | exact OkA.z (by kernel_rfl) (by kernel_rfl) | refine ⟨rfl, ?_⟩ | refine ⟨?_, ?_⟩)))) | ((with_reducible refine callH hH ?_); refine ⟨?_, ?_, ?_⟩; rotate_left; (focus (first | (exact F2.out _ hH.below))))); clear hH; (first | intro W g hH | intro W hH); ((try simp only [Act.put, pA, pB, pC]))))
    go_ret
    exact ⟨by simp, hH.below⟩
  · cases pl
    all_goals
      go_enter Tryz.func7, Tryz.ntmps7
      go_wp2_with (first | ((first | (refine iL tab_ok rfl ?_ rfl hH ?_; (focus (first | exact wN rfl | exact rfl)); refine ⟨_, _, rfl, rfl, ?_⟩) | (refine hBx rfl ?_ rfl hH ?_ ?_; (focus (first | exact wN rfl | exact rfl)); (focus (repeat (first | exact trivial | assumption | exact OkA.z (by kernel_rfl) (by kernel_rfl) | refine ⟨rfl, ?_⟩ | refine ⟨?_, ?_⟩)))) | ((with_reducible refine callH hH ?_); refine ⟨?_, ?_, ?_⟩; rotate_left; (focus (first | (with_reducible exact f1 _) | (with_reducible exact f3 _))))); clear hH; (first | intro W g hH | intro W hH); ((try simp only [Act.put, pA, pB, pC]))))
      go_ret
      exact ⟨by simp, hH.below⟩
end
section
variable {B : Nat} {w0 W w : World} {H : HB} {s : ByteArray} {Q : Ending → World → Prop} {x : Ch} {n : Nat} {e : Int}
theorem hDRead (hs : s.size ≤ 100000) (hr : readC s = (x, n, e)) (hH : Hp B w0 W H) (hQ : ∀ W' p c D, Hid (∀ B w0 W, Hp B w0 W D → AdsAt W p x.e.src) → Hid (∀ r ∈ D, r.2.2.1 = true) → Hp B w0 W' (H ++ D) → Q (.returned (.tuple #[.agg (fls (chS x p c)).toArray, .int .i64 (n : Int), .int .i64 e])) W') : Calls Tryz.prog 25 #[.string s] W Q := by
  have h := dread_any (w := W) hs
  rw [hr] at h
  exact h.mono fun _ _ ⟨p, c, D, he, hm, hr⟩ => by subst he; exact hQ _ p c D (Lib.hid hr) (Lib.hid hm.2) (hH.join hm)
set_option maxHeartbeats 4000000 in
theorem dRead14_any (hs : s.size ≤ 100000) : Calls Tryz.prog 9 #[.string s] w fun e w' => RdCP w (readC s).1 (readC s).2.1 (readC s).2.2 e w' := by
  have hH := Hp.refl w
  obtain ⟨x, n, e, hrd⟩ : ∃ x n e, readC s = (x, n, e) := ⟨_, _, _, rfl⟩
  have HRD := Lib.hid (show ∀ (W : World) (H : HB) (Q : Ending → World → Prop), Hp w.heap.size w W H → (∀ W' p c D, Hid (∀ B w0 W, Hp B w0 W D → AdsAt W p x.e.src) → Hid (∀ r ∈ D, r.2.2.1 = true) → Hp w.heap.size w W' (H ++ D) → Q (.returned (.tuple #[.agg (fls (chS x p c)).toArray, .int .i64 (n : Int), .int .i64 e])) W') → Calls Tryz.prog 25 #[.string s] W Q from fun W H Q hH hQ => hDRead hs hrd hH hQ)
  rw [hrd]
  simp only
  clear hrd hs
  obtain ⟨⟨k, G, ex, l⟩, gn⟩ := x
  have oY := adL_ok G
  have HX := Lib.hid (show ∀ p c, chS (⟨⟨k, G, ex, l⟩, gn⟩ : Ch) p c = [.one (.int .i64 k), .many (adL G) 17, .one (.bool ex), .one (.slice p l.length c), .one (.bool gn)] from fun _ _ => rfl)
  unfold chS at HRD
  simp only at HRD
  generalize adL G = Y at *
  go_enter Tryz.func9, Tryz.ntmps9
  go_wp2_with (first | ((go_at_call 25; with_reducible refine HRD.out _ _ _ hH ?_; (clear hH; intro W px cx Dx hAx hDx hH); (try simp only [List.cons_append, List.nil_append] at hH); ((try simp only [Act.put, pA, pB, pC])))) | ((first | (refine iSR tab_ok rfl ?_ rfl hH ?_; (focus (first | exact wN rfl | exact rfl)); refine ⟨_, _, _, _, rfl, rfl, rfl, rfl, rfl, ?_, ?_⟩; (focus (repeat (first | exact trivial | assumption | exact OkA.z (by kernel_rfl) (by kernel_rfl) | refine ⟨rfl, ?_⟩ | refine ⟨?_, ?_⟩)))) | (refine hAl tab_ok rfl ?_ hH rfl ?_; (focus (first | exact wN rfl | exact rfl)))); clear hH; (first | intro W g hH | intro W hH); ((try simp only [Act.put, pA, pB, pC]))))
  refine retC3 Tryz.results9 tab_ok 0 rfl rfl hH rfl rfl rfl rfl ?_
  exact RdCP.mk (p := px) (cc := cx) (D := Dx) (by rw [HX.out]; rfl) ⟨hH.sub (SubH.drop SubH.refl), hDx.out⟩ hAx.out
end
theorem srcB_all (L : List Ad) : srcB (L.take L.length) = srcB L := by rw [List.take_length]
section
variable {w : World} {p : Option Addr} {c : Nat} {x : Ch}
set_option maxHeartbeats 4000000 in
theorem rWriteC (hg : goodC x = true) (h : AdsAt w p x.e.src) : Gives Tryz.prog 10 #[.agg (fls (chS x p c)).toArray] w (.string (writeC x)) := by
  refine Gives.of ?_
  obtain ⟨_, hl, _⟩ := goodC_src hg
  have hv := goodC_vlan hg
  clear hg
  obtain ⟨⟨vl, G, ex, L⟩, g⟩ := x
  simp only at hl hv h
  obtain ⟨k, rfl⟩ : ∃ k : Nat, vl = k := ⟨vl.toNat, by omega⟩
  have HA := Lib.hid h
  clear h
  have oG := adL_ok G
  have zA := adL_0 G
  have hput : ∀ (n k : Nat) w, n < 65536 → k ≤ 8 → Gives Tryz.prog 26 #[.int .u64 (n : Int), .int .i64 (k : Int)] w (.string (str (putL n k))) := fun n k w hn hk => by
    have := rput_any (n := n) (wide := (k : Int)) (w := w) (by omega)
    rwa [show wn (k : Int) 8 = k by unfold wn within; split; omega; split <;> omega] at this
  have p1 : ∀ w, Gives Tryz.prog 26 #[.int .u64 (flI g ex G.v), .int .i64 1] w (.string (str (putL (flN g ex G.v) 1))) := fun w => by
    have := hput (flN g ex G.v) 1 w (by have := flN_lt g ex G.v; omega) (by omega)
    rw [flN_cast] at this
    exact this
  have p2 : ∀ w, Gives Tryz.prog 26 #[.int .u64 (k : Int), .int .i64 2] w (.string (str (putL k 2))) := fun w => hput k 2 w (by omega) (by omega)
  have p3 : ∀ w, Gives Tryz.prog 26 #[.int .u64 (L.length : Int), .int .i64 1] w (.string (str (putL L.length 1))) := fun w => hput L.length 1 w (by omega) (by omega)
  have pa : ∀ (a : Ad) w, Gives Tryz.prog 27 #[.agg (fls [.many (adL a) 17]).toArray] w (.string (str (bytesA a.v a.b))) := fun a w => by unfold adL; rw [addr_segs1]; exact raBytes_any a.h
  have pG := pa G
  have hba := bytesA_le
  have lG := hba G
  obtain ⟨H0, hH0⟩ : ∃ l, l = putL (flN g ex G.v) 1 ++ putL k 2 ++ bytesA G.v G.b ++ putL L.length 1 := ⟨_, rfl⟩
  have hW : writeC ⟨⟨(k : Int), G, ex, L⟩, g⟩ = str (H0 ++ srcB L) := by
    rw [hH0]; unfold writeC headC; simp only [str_append, Int.toNat_natCast]
  have hHs : str (putL (flN g ex G.v) 1) ++ str (putL k 2) ++ str (bytesA G.v G.b) ++ str (putL L.length 1) = str H0 := by rw [hH0]; simp only [str_append]
  have hHl : H0.length ≤ 20 := by rw [hH0]; simp only [List.length_append, putL_length]; omega
  rw [hW]
  clear hW hH0
  have HW := Lib.hid (show srcB (L.take L.length) = srcB L from srcB_all L)
  have l1 := putL_length (flN g ex G.v) 1
  have l2 := putL_length k 2
  have l3 := putL_length L.length 1
  generalize putL (flN g ex G.v) 1 = D1 at *
  generalize putL k 2 = D2 at *
  generalize putL L.length 1 = D3 at *
  generalize bytesA G.v G.b = D4 at *
  have HS := Lib.hid hHs
  clear hHs hput
  have m1 : D1.length ≤ 1 := by omega
  have m2 : D2.length ≤ 2 := by omega
  have m3 : D3.length ≤ 1 := by omega
  clear l1 l2 l3
  have hLl : L.length ≤ 64 := hl
  unfold chS
  simp only
  generalize G.v = v at *
  generalize adL G = Y at *
  have hH := Hp.refl w
  cases g <;> cases ex <;> cases v
  all_goals
    simp only [flI] at p1
    go_enter Tryz.func10, Tryz.ntmps10
    go_wp2_with (first | ((first | (refine iL tab_ok rfl ?_ rfl hH ?_; (focus (first | exact wN rfl | exact rfl)); refine ⟨_, _, rfl, rfl, ?_⟩) | (refine iLi tab_ok rfl ?_ rfl hH ?_; (focus (first | exact wN rfl | exact rfl)); refine ⟨_, _, _, ?_, rfl, rfl, rfl, ?_, ?_⟩; rotate_left; (focus assumption)) | (refine hBx rfl ?_ rfl hH ?_ ?_; (focus (first | exact wN rfl | exact rfl)); (focus (repeat (first | exact trivial | assumption | exact OkA.z (by kernel_rfl) (by kernel_rfl) | refine ⟨rfl, ?_⟩ | refine ⟨?_, ?_⟩))))); clear hH; (first | intro W g hH | intro W hH); ((try simp only [Act.put, pA, pB, pC]))))
    ((with_reducible refine regQ hH (by kernel_rfl) (by kernel_rfl) ?_); intro hne; (repeat (first | (go_big_quiet_want; (first | (refine qiL tab_ok rfl rfl ?_; refine ⟨_, _, rfl, rfl, ?_⟩)); (try simp only [Act.put, pA, pB, pC]); go_big_quiet_on) | go_big_quiet_step (((with_reducible apply callQ); first | (with_reducible exact p1 _) | (with_reducible exact p2 _) | (with_reducible exact p3 _) | (with_reducible exact pG _))))); refine wpQuiet_nil ?_; clear hne hH; intro W hH)
    go_wp2_with (fail)
    go_loopw [5, 6] (fun s i wr => ∃ (j : Nat), i = .int .i64 (j : Int) ∧ j ≤ L.length ∧ s = .string (str (H0 ++ srcB (L.take j))) ∧ Hp w.heap.size w wr []) (fun _ i _ => L.length - (intOf i).toNat)
    case atStart => exact ⟨0, rfl, by omega, by rw [HS.out]; simp [srcB], hH.nil⟩
    case round =>
      clear hH
      obtain ⟨j, rfl, hj, rfl, hH⟩ := hrel
      by_cases hjl : j < L.length
      · obtain ⟨a, ha, fA, _⟩ := HA.out.get hjl
        subst ha
        have dj : decide (j < L.length) = true := decide_eq_true hjl
        have oA := adL_ok L[j]
        have pJ := pa L[j]
        have hbj := hba L[j]
        have hsn := Lib.hid (srcB_snoc hjl)
        have hsl := srcB_le (L.take j)
        rw [List.length_take, Nat.min_eq_left hj] at hsl
        have hs2 : (srcB (L.take j)).length ≤ 2000 := by omega
        generalize srcB (L.take j) = S at *
        generalize bytesA L[j].v L[j].b = D at *
        generalize adL L[j] = Z at *
        clear hsl HA HW pa
        go_wp2_with (first | ((refine gL rfl ?_; refine hLoR tab_ok rfl ?_ rfl hH rfl rfl ?_; (focus (first | exact wN rfl | exact rfl)); refine ⟨_, fA, ⟨oA, trivial⟩, rfl, ?_⟩; (clear hH; (first | intro W g hH | intro W hH); (try simp only [Act.put, pA, pB, pC])))) | ((first | ((with_reducible refine callH hH ?_); refine ⟨?_, ?_, ?_⟩; rotate_left; (focus (first | (with_reducible exact pJ _))))); clear hH; (first | intro W g hH | intro W hH); ((try simp only [Act.put, pA, pB, pC]))))
        exact ⟨⟨j + 1, by simp, by omega, by rw [hsn.out, str_append, List.append_assoc], hH⟩, by simp [intOf]; omega⟩
      · obtain rfl : j = L.length := by omega
        have dj : decide (L.length < L.length) = false := decide_eq_false hjl
        go_wp2_with (fail)
        go_ret
        exact ⟨by rw [HW.out]; rfl, hH.below⟩
end
end
section
open Go.ChangeShapes Go.WideShapes Go.ChangeAt Go.RowKit
set_option linter.unusedVariables false
set_option linter.unusedSimpArgs false
set_option maxRecDepth 20000
attribute [local irreducible] wpList

def mixS (S : Act → World → Prop) : Exit → Act → World → Prop
  | .normal, a, w => S a w
  | _, _, _ => False
section
variable {P : Program} {B : Nat} {w0 W : World} {H H0 : HB} {a : Act} {Q : Exit → Act → World → Prop} {l : List Oper} {fuel : Nat} {listed : Array Bool} {nb : List Nat}
theorem regKS {S : Act → World → Prop} {id : Nat} (nb : List Nat) (hH : Hp B w0 W H) (hS : SubH H H0) (hm : P.follows .mixedOrders = true) (h : ∀ W', Hp B w0 W' H → WMK P l (mixS S) B w0 H0 nb l.length (Array.replicate l.length false) a W')
    (hk : ∀ a W', S a W' → Q .normal a W') : (Code.region id l.toArray true).wp P Q a W := by
  refine Code.wp_mono (fun e a w hq => ?_) (regK nb hH hS hm h)
  cases e <;> first | exact hq.elim | exact hk _ _ hq
theorem hk_endS {S : Act → World → Prop} (hr : Region.ready .any l.toArray listed = []) (h : S a W) : WMK P l (mixS S) B w0 H0 nb fuel listed a W := hk_end hr h
theorem regKP3 {A1 A2 A3 : Type} {F : A1 → A2 → A3 → Prop} {af : Nat → A1 → A2 → A3 → Act} {Hf : Nat → A1 → A2 → A3 → HB} {id : Nat} (nb : List Nat) (hH : Hp B w0 W H) (hS : SubH H H0) (hm : P.follows .mixedOrders = true)
    (h : ∀ W', Hp B w0 W' H → WMK P l (mixS fun a w => ∃ g x y z, F x y z ∧ a = af g x y z ∧ Hp B w0 w (Hf g x y z)) B w0 H0 nb l.length (Array.replicate l.length false) a W')
    (hk : ∀ W' g x y z, F x y z → Hp B w0 W' (Hf g x y z) → Q .normal (af g x y z) W') : (Code.region id l.toArray true).wp P Q a W :=
  regKS nb hH hS hm h fun a W' ⟨g, x, y, z, h1, h2, h3⟩ => by subst h2; exact hk W' g x y z h1 h3
end
def Tr3 (_ _ : Nat) (_ : List Value) : Prop := True
theorem tr3 {a b : Nat} {d : List Value} : Tr3 a b d := trivial
section
variable {H : Type} {enc : TypeId × Value → H} {W : World} {base : Nat} {held : Bool} {fuel : Nat} {cs : List Value} {x : DataW H × List MemPlace}
theorem ch_trod (h : DataW.trod enc Tryz.prog W base (fun _ => true) held fuel 31 cs = some x) : ∃ y : Cv, cs = fls (cvS y) ∧ AdsAt W y.p y.x.e.src := by
  obtain ⟨xs, n, rfl, _, hl, hxl, hf⟩ := DataW.trod_struct Tryz.underlying31 h
  have hl : cs.length = 21 := by rw [hl]; kernel_rfl
  have hxl : xs.length = 2 := hxl
  have g0 := hf 0 _ rfl
  have g1 := hf 1 _ rfl
  have ce : Tryz.prog.cellsOf 29 = 20 := by kernel_rfl
  have cb : Tryz.prog.cellsOf 4 = 1 := by kernel_rfl
  change DataW.trod enc Tryz.prog W base (fun _ => true) held n 29 ((cs.drop 0).take (Tryz.prog.cellsOf 29)) = xs[0]? at g0
  change DataW.trod enc Tryz.prog W base (fun _ => true) held n 4 ((cs.drop 20).take (Tryz.prog.cellsOf 4)) = xs[1]? at g1
  rw [ce, List.getElem?_eq_getElem (show 0 < xs.length by omega)] at g0
  rw [cb, List.getElem?_eq_getElem (show 1 < xs.length by omega)] at g1
  obtain ⟨y, h0, hA, _⟩ := en_trod g0
  obtain ⟨b, hb, _⟩ := DataW.trod_bool Tryz.underlying4 g1
  refine ⟨⟨⟨y.e, b⟩, y.p, y.c⟩, ?_, hA⟩
  have e1 : cs = (cs.drop 0).take 20 ++ (cs.drop 20).take 1 := by
    rw [List.drop_zero, List.take_of_length_le (l := cs.drop 20) (by simp; omega), List.take_append_drop]
  rw [e1, h0, hb]
  simp [cvS, chS, evS, enS, fls]
theorem ch_open {v : Value} {d : DataW H} {ps : List MemPlace} {base' : Nat} (g : Value.okWide Tryz.prog W .any base' 31 v) (h : DataW.Trod enc Tryz.prog W base (fun _ => true) held 31 v d ps) :
    ∃ y : Cv, v = .agg (fls (cvS y)).toArray ∧ AdsAt W y.p y.x.e.src := by
  obtain ⟨cs, rfl, hc⟩ := open_agg_struct (ts := [3] ++ ((4 :: List.replicate 16 5) ++ ([4, 25] ++ [4]))) Tryz.underlying31 (by kernel_rfl) (by kernel_rfl) g
  obtain ⟨fuel0, hf0⟩ := h
  have hf0 : DataW.trod enc Tryz.prog W base (fun _ => true) held fuel0 31 cs = some (d, ps) := by simpa [Value.cells] using hf0
  obtain ⟨y, h1, h2⟩ := ch_trod hf0
  exact ⟨y, by rw [h1], h2⟩
end
end
end Go.Proofs.YtjegjgdihpihoaaGreatDoor
