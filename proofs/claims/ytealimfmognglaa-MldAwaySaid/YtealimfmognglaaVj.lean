/-
  Contracts of acequiaref09: sixteen, sources.
-/
import Derived.Test.YtealimfmognglaaVd
import Derived.Test.YtealimfmognglaaIn
namespace Go.Proofs.Ytealimfmognglaa
-- %in
open Go.ChangeShapes Go.WideShapes Go.ChangeAt Go.RowKit
set_option linter.unusedVariables false
set_option linter.unusedSimpArgs false
set_option maxRecDepth 20000
attribute [local irreducible] wpList

def ad16 (s : ByteArray) (k : Nat) : Ad := adR (s.extract k (k + 16))
def srcAt (s : ByteArray) (k n : Nat) : List Ad := (List.range n).map fun i => ad16 s (k + 16 * i)
def rSrcF (s : ByteArray) (k n : Nat) : List Ad × Int := if 64 < n then ([], 6) else if s.size < k + 16 * n then ([], 3) else (srcAt s k n, 0)
theorem srcAt_len (s : ByteArray) (k n : Nat) : (srcAt s k n).length = n := by simp [srcAt]
theorem srcAt_snoc (s : ByteArray) (k n : Nat) : srcAt s k (n + 1) = srcAt s k n ++ [ad16 s (k + 16 * n)] := by simp [srcAt, List.range_succ]
def SrcPost (w : World) (L : List Ad) (c : Int) (e : Ending) (w' : World) : Prop := ∃ p cc D, e = .returned (.tuple #[.slice p L.length cc, .int .i64 c]) ∧ Made w w' D ∧ ∀ B w0 W, Hp B w0 W D → AdsAt W p L
theorem SrcPost.mk {w : World} {L : List Ad} {c : Int} {e : Ending} {w' : World} {p : Option Addr} {cc : Nat} {D : HB} (h1 : e = .returned (.tuple #[.slice p L.length cc, .int .i64 c])) (h2 : Made w w' D) (h3 : ∀ B w0 W, Hp B w0 W D → AdsAt W p L) : SrcPost w L c e w' := ⟨p, cc, D, h1, h2, h3⟩
section
variable {w : World} {s : ByteArray}
set_option maxHeartbeats 1000000 in
theorem rsixteen_any {k : Nat} (hk : k + 16 ≤ s.size) (hs : s.size ≤ 100000) : Gives Try.prog 72 #[.string s, .int .i64 (k : Int)] w (.agg (fls [.many (adL (ad16 s k)) 17]).toArray) := by
  have hx : (s.extract k (k + 16)).size = 16 := by rw [extract_size hk (by omega)]; omega
  have ra : ∀ w, Gives Try.prog 94 #[.string (s.extract k (k + 16))] w (.tuple #[.agg (fls [.many (adL (ad16 s k)) 17]).toArray, .bool true]) := fun w => by
    unfold ad16
    rw [adR_six hx, addr_segs1]
    exact raRead_t (b := true) rfl (by simpa using hx)
  have oA := adL_ok (ad16 s k)
  generalize adL (ad16 s k) = A at *
  clear hx
  have d1 : decide ((k : Int) + 16 ≤ (s.size : Int)) = true := decide_eq_true (by omega)
  have d2 : (k : Int) + 16 ≤ (s.size : Int) := by omega
  refine Gives.of ?_
  have hH := Hp.refl w
  go_enter Try.func72, Try.ntmps72
  go_wp2_with (first | ((first | (refine iL tab_ok rfl ?_ rfl hH ?_; (focus (first | exact wN rfl | exact rfl)); refine ⟨_, _, rfl, rfl, ?_⟩) | (refine iSR tab_ok rfl ?_ rfl hH ?_; (focus (first | exact wN rfl | exact rfl)); refine ⟨_, _, _, _, rfl, rfl, rfl, rfl, rfl, ?_, ?_⟩; (focus (repeat (first | exact trivial | assumption | exact OkA.z (by kernel_rfl) (by kernel_rfl) | refine ⟨rfl, ?_⟩ | refine ⟨?_, ?_⟩)))) | (refine hAl tab_ok rfl ?_ hH rfl ?_; (focus (first | exact wN rfl | exact rfl))) | ((with_reducible refine callH hH ?_); refine ⟨?_, ?_, ?_⟩; rotate_left; (focus (first | (with_reducible exact ra _))))); clear hH; (first | intro W g hH | intro W hH); ((try simp only [Act.put, pA, pB, pC]))))
  (refine iRet Try.results72 tab_ok rfl rfl hH ?_; refine ⟨_, _, rfl, rfl, rfl, ?_⟩)
  exact ⟨rfl, hH.below⟩
set_option maxHeartbeats 1000000 in
theorem rsources_any {k n : Nat} (hn : n < 65536) (hk : k ≤ 200000) (hs : s.size ≤ 100000) : Calls Try.prog 73 #[.string s, .int .i64 (k : Int), .int .i64 (n : Int)] w fun e w' => SrcPost w (rSrcF s k n).1 (rSrcF s k n).2 e w' := by
  have hH := Hp.refl w
  unfold rSrcF
  by_cases h64 : 64 < n
  · rw [if_pos h64]
    have d1 : decide ((64 : Int) < (n : Int)) = true := decide_eq_true (by omega)
    go_enter Try.func73, Try.ntmps73
    go_wp2_with (first | ((refine hSl0 tab_ok rfl ?_ tabs_ok rfl rfl rfl hH ?_; (focus (first | exact wN rfl | exact rfl)); clear hH; intro W g hH; (try simp only [Act.put, pA, pB, pC]))))
    go_ret2
    exact SrcPost.mk (L := []) (p := some ⟨g, 0, none⟩) (cc := 0) (D := []) rfl ⟨hH.nil, by simp⟩ (fun B w0 W h => AdsAt.nil)
  rw [if_neg h64]
  have d1 : decide ((64 : Int) < (n : Int)) = false := decide_eq_false (by omega)
  by_cases hz : s.size < k + 16 * n
  · rw [if_pos hz]
    have d2 : decide ((s.size : Int) < (k : Int) + 16 * (n : Int)) = true := decide_eq_true (by omega)
    have d3 : (s.size : Int) < (k : Int) + 16 * (n : Int) := by omega
    clear h64 hz
    go_enter Try.func73, Try.ntmps73
    go_wp2_with (first | ((refine hSl0 tab_ok rfl ?_ tabs_ok rfl rfl rfl hH ?_; (focus (first | exact wN rfl | exact rfl)); clear hH; intro W g hH; (try simp only [Act.put, pA, pB, pC]))))
    go_ret2
    exact SrcPost.mk (L := []) (p := some ⟨g, 0, none⟩) (cc := 0) (D := []) rfl ⟨hH.nil, by simp⟩ (fun B w0 W h => AdsAt.nil)
  rw [if_neg hz]
  have d2 : decide ((s.size : Int) < (k : Int) + 16 * (n : Int)) = false := decide_eq_false (by omega)
  have d3 : (k : Int) + 16 * (n : Int) ≤ (s.size : Int) := by omega
  have HZ := Lib.hid hz
  clear hz
  go_enter Try.func73, Try.ntmps73
  go_wp2_with (first | ((refine hSl0 tab_ok rfl ?_ tabs_ok rfl rfl rfl hH ?_; (focus (first | exact wN rfl | exact rfl)); clear hH; intro W g hH; (try simp only [Act.put, pA, pB, pC]))))
  clear d1 d2 d3
  go_loopw [8, 9] (fun sl i wr => ∃ (j : Nat) (X : List Ad) (go cc q : Nat) (J : List Value), i = .int .i64 (j : Int) ∧ j ≤ n ∧ Hid (X = srcAt s k j) ∧ X.length = j ∧ sl = .slice (some ⟨go, 0, none⟩) X.length cc ∧ Grow 17 X.length cc (X.length * 17) q ∧ OkA J q ∧ Hp w.heap.size w wr [(go, 24, true, [.many (adsL X) (X.length * 17), .many J q])]) (fun _ i _ => n - (intOf i).toNat)
  case atStart => exact ⟨0, [], g, 0, 0, [], rfl, by omega, Lib.hid rfl, rfl, rfl, ⟨rfl, rfl, Nat.le_refl _, by simp [maxLen]⟩, ⟨rfl, by simp⟩, hH⟩
  case round =>
    clear hH
    obtain ⟨j, X, go, cc, q, J, rfl, hj, hX, hXj, rfl, hG, oJ, hH⟩ := hrel
    by_cases hjn : j < n
    · have dj : decide ((j : Int) < (n : Int)) = true := decide_eq_true (by omega)
      have hk4 : k + 16 * j + 16 ≤ s.size := by have := HZ.out; omega
      have f4 : ∀ w, Gives Try.prog 72 #[.string s, .int .i64 ((k : Int) + 16 * (j : Int))] w (.agg (fls [.many (adL (ad16 s (k + 16 * j))) 17]).toArray) := fun w => by
        have := rsixteen_any (w := w) (k := k + 16 * j) hk4 hs
        rwa [show ((k + 16 * j : Nat) : Int) = (k : Int) + 16 * (j : Int) by push_cast; rfl] at this
      have oY := adL_ok (ad16 s (k + 16 * j))
      have hSnoc := Lib.hid (adsL_snoc X (ad16 s (k + 16 * j)))
      have hNew := Lib.hid (show X ++ [ad16 s (k + 16 * j)] = srcAt s k (j + 1) by rw [srcAt_snoc, hX.out])
      generalize ad16 s (k + 16 * j) = y at *
      obtain ⟨Y, hY⟩ : ∃ Y, Y = adL y := ⟨_, rfl⟩
      rw [← hY] at f4 oY hSnoc
      clear hY hk4 hX
      have hXj := Lib.hid hXj
      have hX64 : X.length ≤ 64 := by have := hXj.out; omega
      go_wp2_with (first | ((refine hSl tab_ok rfl ?_ rfl tabs_ok rfl rfl rfl rfl rfl hH ?_; (focus (first | exact wN rfl | exact rfl)); refine ⟨?_, ?_, ?_⟩; rotate_left; (focus (repeat (first | exact BR.nil | refine BR.one rfl rfl rfl ?_ | (refine BR.row rfl rfl rfl rfl ?_ ?_; (focus (repeat (first | exact trivial | assumption | exact OkA.z (by kernel_rfl) (by kernel_rfl) | refine ⟨rfl, ?_⟩ | refine ⟨?_, ?_⟩))))))); clear hH; intro W g hH; (try simp only [Act.put, pA, pB, pC]))) | (((first | (refine hApp 1 0 tab_ok tabs_ok rfl rfl rfl rfl rfl rfl rfl hH rfl rfl rfl rfl ?_; refine ⟨?_, ?_, ?_⟩; (focus assumption); (focus (first | omega | (simp; omega))))); clear hH; intro W g c p q J hG hL hJ hH; (try simp only [putH, fls, List.append_nil] at hH hL); (try simp only [Act.put, pA, pB, pC]))) | ((first | ((with_reducible refine callH hH ?_); refine ⟨?_, ?_, ?_⟩; rotate_left; (focus (first | (with_reducible exact f4 _))))); clear hH; (first | intro W g hH | intro W hH); ((try simp only [Act.put, pA, pB, pC]))))
      have hp := hG.hp
      have hq := hG.hq
      have hle := hG.le
      have hmo := hG.most
      have e1 : (X ++ [y]).length = X.length + 1 := by simp
      refine ⟨⟨j + 1, X ++ [y], g, c, q, J, by simp, by omega, hNew, by rw [e1, hXj.out], by simp, by rw [e1]; exact ⟨rfl, by rw [← hq, hp], hle, hmo⟩, hJ, ?_⟩, by simp [intOf]; omega⟩
      rw [show (X ++ [y]).length * 17 = p by rw [hp, e1], hSnoc.out]
      exact hH.sub (SubH.drop SubH.refl)
    · have dj : decide ((j : Int) < (n : Int)) = false := decide_eq_false (by omega)
      have e : j = n := by omega
      have hXm : X.length ≤ 9223372036854775807 := by omega
      have HL := Lib.hid (show srcAt s k n = X by rw [hX.out, e])
      clear hX hXj e hG
      go_wp2_with (fail)
      go_ret2
      refine SrcPost.mk (p := some ⟨go, 0, none⟩) (cc := cc) (D := [(go, 24, true, [.many (adsL X) (X.length * 17), .many J q])]) (by rw [HL.out]; rfl) ⟨hH, by simp⟩ (fun B w0 W h => ?_)
      rw [HL.out]
      exact adsAt_row hXm (by have := (h.rows.mem (i := 0) rfl).1; rwa [fls_two] at this)
end
end Go.Proofs.Ytealimfmognglaa
