/-
  Joined texts: Jm, Tf.
-/
import Derived.Test.YtdnehjhijmeihaaGreatQTk
import Derived.Test.YtdnehjhijmeihaaGreatQSl
namespace Go.Proofs.YtdnehjhijmeihaaGreat
open Go.ChangeShapes Go.WideShapes Go.ChangeAt Go.RowKit
set_option linter.unusedVariables false
set_option linter.unusedSimpArgs false
set_option maxRecDepth 20000
set_option maxHeartbeats 4000000
attribute [local irreducible] wpList
theorem ofInt_u8' (a : Nat) (ha : a < 256) : (BitVec.ofInt 8 (a : Int)).toNat = a := by
  rw [BitVec.ofInt_natCast, BitVec.toNat_ofNat]; exact Nat.mod_eq_of_lt (by omega)
theorem u8_and (a b : Nat) (ha : a < 256) (hb : b < 256) : bits .and .u8 (a : Int) (b : Int) = ((a &&& b : Nat) : Int) := by
  have hx : a &&& b < 2 ^ 8 := Nat.and_lt_two_pow _ (by omega)
  show IntKind.u8.wrap ((BitVec.ofInt 8 (a : Int) &&& BitVec.ofInt 8 (b : Int)).toNat : Int) = _
  rw [BitVec.toNat_and, ofInt_u8' a ha, ofInt_u8' b hb, IntKind.wrap_u8]
  omega
def bA (a : Ad) (i : Nat) : Nat := (a.b[i]?.getD 0).toNat
theorem bA_lt (a : Ad) (i : Nat) : bA a i < 256 := (a.b[i]?.getD 0).toNat_lt
def b8 (n : Nat) : Value := .int .u8 (n : Int)
def macN (a : Ad) : List Nat := if a.v then [51, 51, bA a 12, bA a 13, bA a 14, bA a 15] else [1, 0, 94, bA a 1 % 128, bA a 2, bA a 3]
def macL (a : Ad) : List Value := (if groupA a.v a.b then macN a else [0, 0, 0, 0, 0, 0]).map b8
theorem bA_cell (a : Ad) {i : Nat} (h : i < 16) : CellA (a.b.map byteV) i (b8 (bA a i)) := by
  have := a.h
  unfold CellA bA
  rw [List.getElem?_map, List.getElem?_eq_getElem (by omega)]; rfl
section
variable {w : World} {a : Ad}
theorem aMac_any : Gives Tryz.prog 18 #[.agg (addrV a.v a.b)] w (.tuple #[.agg (macL a).toArray, .bool (groupA a.v a.b)]) := by
  refine Gives.of ?_
  have hH := Hp.refl w
  have f : ∀ w, Gives Tryz.prog 55 #[.agg (addrV a.v a.b)] w (.bool (groupA a.v a.b)) := fun w => agroup_any a.h
  have oA := okA_bytes a.h
  have c1 := bA_cell a (i := 1) (by omega)
  have c2 := bA_cell a (i := 2) (by omega)
  have c3 := bA_cell a (i := 3) (by omega)
  have c12 := bA_cell a (i := 12) (by omega)
  have c13 := bA_cell a (i := 13) (by omega)
  have c14 := bA_cell a (i := 14) (by omega)
  have c15 := bA_cell a (i := 15) (by omega)
  have ha : bits .and .u8 (bA a 1 : Int) 127 = ((bA a 1 % 128 : Nat) : Int) := by
    have := bA_lt a 1
    rw [show (127 : Int) = ((2 ^ 7 - 1 : Nat) : Int) from rfl, u8_and _ _ this (by omega), Nat.and_two_pow_sub_one_eq_mod]
  rw [addr_segs] at *
  unfold macL macN b8 at *
  generalize a.b.map byteV = A at *
  generalize groupA a.v a.b = g at *
  generalize a.v = v at *
  generalize bA a 1 = n1 at *
  generalize n1 % 128 = m1 at *
  cases g <;> cases v
  all_goals go_enter Tryz.func18, Tryz.ntmps18
  all_goals go_wp2_with (refine st ?_; clear hH; first | intro W g hH | intro W hH)
  all_goals (refine iRet2 Tryz.results18 tab_ok rfl rfl hH ?_; refine ⟨_, _, rfl, rfl, rfl, ?_⟩)
  all_goals exact ⟨rfl, hH.below⟩
end
end Go.Proofs.YtdnehjhijmeihaaGreat
namespace Go.Proofs.YtdnehjhijmeihaaGreat
open Go.ChangeShapes Go.WideShapes Go.ChangeAt Go.RowKit
set_option linter.unusedVariables false
set_option linter.unusedSimpArgs false
set_option maxRecDepth 20000
attribute [local irreducible] wpList
def AdsPost (w : World) (L : List Ad) (e : Ending) (w' : World) : Prop := ∃ g c q J, e = .returned (.slice (some ⟨g, 0, none⟩) L.length c) ∧ Made w w' [(g, 25, true, [.many (adsL L) (L.length * 17), .many J q])]
theorem AdsPost.mk {w : World} {L : List Ad} {e : Ending} {w' : World} {g c q : Nat} {J : List Value} (h1 : e = .returned (.slice (some ⟨g, 0, none⟩) L.length c)) (h2 : Hp w.heap.size w w' [(g, 25, true, [.many (adsL L) (L.length * 17), .many J q])]) : AdsPost w L e w' := ⟨g, c, q, J, h1, h2, by simp⟩
section
variable {w : World} {p p' : Option Addr} {c c' : Nat} {L M : List Ad}
theorem addrs_any {m : Int} (hm : m ≤ 1000) (h : AdsAt w p L) : Calls Tryz.prog 76 #[.slice p L.length c, .int .i64 m] w fun e w' => AdsPost w (L.take m.toNat) e w' := by
  obtain ⟨hl, hA⟩ := h
  have HA := Lib.hid hA
  clear hA
  have hH := Hp.refl w
  go_enter Tryz.func76, Tryz.ntmps76
  go_wp2_with (refine st ?_; clear hH; first | intro W g hH | intro W hH)
  have hH := hH.alloc 25 (S := [.many [] 0, .many [] 0]) ⟨⟨rfl, by simp⟩, ⟨rfl, by simp⟩, trivial⟩
  go_loopw [5, 6] (fun s i wr => ∃ (j : Nat) (X : List Ad) (g cc q : Nat) (J : List Value), i = .int .i64 (j : Int) ∧ j ≤ 1000 ∧ X = L.take j ∧ X.length = j ∧ (j : Int) ≤ max m 0 ∧ s = .slice (some ⟨g, 0, none⟩) X.length cc ∧ Grow 17 X.length cc (X.length * 17) q ∧ OkA J q ∧ Hp w.heap.size w wr [(g, 25, true, [.many (adsL X) (X.length * 17), .many J q])]) (fun _ i _ => 1000 - (intOf i).toNat)
  case atStart => exact ⟨0, [], _, 0, 0, [], rfl, by omega, rfl, rfl, by omega, rfl, ⟨rfl, rfl, Nat.le_refl _, by simp [maxLen]⟩, ⟨rfl, by simp⟩, hH⟩
  case round =>
    clear hH
    obtain ⟨j, X, g, cc, q, J, rfl, hj, hX, hXj, hjm, rfl, hG, oJ, hH⟩ := hrel
    by_cases hin : j < L.length ∧ (j : Int) < m
    · obtain ⟨hjl, hjm⟩ := hin
      obtain ⟨a, ha, fO⟩ := HA.out j hjl
      subst ha
      have dj : decide ((j : Int) < (L.length : Int)) = true := decide_eq_true (by omega)
      have dm : decide ((j : Int) < m) = true := decide_eq_true (by omega)
      have hSnoc := Lib.hid (adsL_snoc X L[j])
      have hTake := Lib.hid (show X ++ [L[j]] = L.take (j + 1) by rw [hX, List.take_append_getElem])
      have oX := adL_ok L[j]
      have hX' := Lib.hid hX
      clear hX HA
      generalize hY : L[j] = y at *
      have HY := Lib.hid hY
      clear hY
      obtain ⟨Y, hYY⟩ : ∃ Y, Y = adL y := ⟨_, rfl⟩
      rw [← hYY] at fO oX hSnoc
      clear hYY
      go_wp2_with (first | ((refine gL rfl ?_; refine hLoR tab_ok rfl ?_ rfl hH rfl rfl ?_; (focus first|exact wN rfl|exact rfl); refine ⟨_, fO, ⟨oX, trivial⟩, rfl, ?_⟩; (clear hH; (first | intro W g hH | intro W hH); (try simp only [Act.put, pA, pB, pC])))) | (((first | (refine hApp 1 0 tab_ok tabs_ok rfl rfl rfl rfl rfl rfl rfl hH rfl rfl rfl rfl ?_; refine ⟨?_, ?_, ?_⟩; (focus assumption); (focus (first | omega | (simp; omega)))) | (refine hApp 2 0 tab_ok tabs_ok rfl rfl rfl rfl rfl rfl rfl hH rfl rfl rfl rfl ?_; refine ⟨?_, ?_, ?_⟩; (focus assumption); (focus (first | omega | (simp; omega)))) | (refine hApp0 0 tab_ok tabs_ok rfl rfl rfl rfl rfl rfl rfl hH rfl rfl rfl ?_; refine ⟨?_, ?_, ?_⟩; (focus (first | omega | (simp; omega))); (focus (first | omega | (simp; omega)))) | (refine hApp 0 1 tab_ok tabs_ok rfl rfl rfl rfl rfl rfl rfl hH rfl rfl rfl rfl ?_; refine ⟨?_, ?_, ?_⟩; (focus assumption); (focus (first | omega | (simp; omega)))) | (refine hApp 2 1 tab_ok tabs_ok rfl rfl rfl rfl rfl rfl rfl hH rfl rfl rfl rfl ?_; refine ⟨?_, ?_, ?_⟩; (focus assumption); (focus (first | omega | (simp; omega)))) | (refine hApp0 1 tab_ok tabs_ok rfl rfl rfl rfl rfl rfl rfl hH rfl rfl rfl ?_; refine ⟨?_, ?_, ?_⟩; (focus (first | omega | (simp; omega))); (focus (first | omega | (simp; omega))))); clear hH; intro W g c p q J hG hL hJ hH; (try simp only [putH, fls, List.append_nil] at hH hL); (try simp only [Act.put, pA, pB, pC]))) | (refine st ?_; clear hH; first | intro W g hH | intro W hH))
      have hp := hG.hp
      have hq := hG.hq
      have hle := hG.le
      have hmo := hG.most
      clear hG
      refine ⟨⟨j + 1, X ++ [y], g, c, q, J, by simp, by omega, hTake.out, by simp [hXj], by omega, by simp, ?_, hJ, ?_⟩, by simp [intOf]; omega⟩
      · have e1 : (X ++ [y]).length = X.length + 1 := by simp
        rw [e1]
        exact ⟨rfl, by rw [← hq, hp], hle, hmo⟩
      · have e1 : (X ++ [y]).length * 17 = p := by rw [hp]; simp
        rw [e1, hSnoc.out]
        exact hH.sub (SubH.drop SubH.refl)
    · have hend := Lib.hid (show L.take m.toNat = X by
        rw [hX]
        by_cases h : L.length ≤ j
        · rw [List.take_of_length_le h, List.take_of_length_le]
          rw [hX, List.length_take] at hXj
          omega
        · congr 1; omega)
      clear hX
      have hcase : (L.length ≤ j ∧ decide ((j : Int) < (L.length : Int)) = false) ∨ (j < L.length ∧ m ≤ (j : Int) ∧ decide ((j : Int) < (L.length : Int)) = true ∧ decide ((j : Int) < m) = false) := by
        by_cases h1 : j < L.length
        · exact .inr ⟨h1, by omega, decide_eq_true (by omega), decide_eq_false (by omega)⟩
        · exact .inl ⟨by omega, decide_eq_false (by omega)⟩
      clear HA hin
      rcases hcase with ⟨hj1, dj⟩ | ⟨hj1, hj2, dj, dm⟩
      all_goals
        go_wp2_with (refine st ?_; clear hH; first | intro W g hH | intro W hH)
        go_ret
        exact AdsPost.mk (by rw [hend.out]; rfl) (by rw [hend.out]; exact hH)
theorem hAddrs {B : Nat} {w0 W : World} {H : HB} {R : Ending → World → Prop} (hH : Hp B w0 W H) (h : AdsAt W p L) (hR : ∀ W' g c q J L', Hid (L' = L.take 6) → Hp B w0 W' ((g, 25, true, [.many (adsL L') (L'.length * 17), .many J q]) :: H) → R (.returned (.slice (some ⟨g, 0, none⟩) L'.length c)) W') :
    Calls Tryz.prog 76 #[.slice p L.length c, .int .i64 6] W R :=
  (addrs_any (m := 6) (by omega) h).mono fun _ _ ⟨g, c, q, J, he, hm⟩ => by subst he; exact hR _ g c q J _ (Lib.hid rfl) (hH.joinF hm)
def fewR (r : Rc) : Rc := ⟨r.kind, r.grp, r.src.take 6⟩
def RcsPost (w : World) (R : List Rc) (e : Ending) (w' : World) : Prop := ∃ g c D, e = .returned (.slice (some ⟨g, 0, none⟩) R.length c) ∧ Made w w' D ∧ ∀ B w0 W, Hp B w0 W D → RcsAt W (some ⟨g, 0, none⟩) R
theorem RcsPost.mk {w : World} {R : List Rc} {e : Ending} {w' : World} {g c : Nat} {D : HB} (h1 : e = .returned (.slice (some ⟨g, 0, none⟩) R.length c)) (h2 : Made w w' D) (h3 : ∀ B w0 W, Hp B w0 W D → RcsAt W (some ⟨g, 0, none⟩) R) : RcsPost w R e w' := ⟨g, c, D, h1, h2, h3⟩
set_option maxHeartbeats 1000000 in
theorem records_any {R : List Rc} {m : Int} (hm : m ≤ 1000) (h : RcsAt w p R) : Calls Tryz.prog 77 #[.slice p R.length c, .int .i64 m] w fun e w' => RcsPost w ((R.take m.toNat).map fewR) e w' := by
  have HR := Lib.hid h
  have hl := h.1
  clear h
  have hH := Hp.refl w
  go_enter Tryz.func77, Tryz.ntmps77
  go_wp2_with (refine st ?_; clear hH; first | intro W g hH | intro W hH)
  have hH := hH.alloc 119 (S := [.many [] 0, .many [] 0]) ⟨⟨rfl, by simp⟩, ⟨rfl, by simp⟩, trivial⟩
  go_loopw [5, 6] (fun s i wr => ∃ (j : Nat) (X : List Rv) (g cc q : Nat) (J : List Value) (D : HB), i = .int .i64 (j : Int) ∧ j ≤ 1000 ∧ X.map Rv.r = (R.take j).map fewR ∧ X.length = j ∧ (j : Int) ≤ max m 0 ∧ s = .slice (some ⟨g, 0, none⟩) X.length cc ∧ Grow 19 X.length cc (X.length * 19) q ∧ OkA J q ∧ Hp w.heap.size w wr ((g, 119, true, [.many (rvsL X) (X.length * 19), .many J q]) :: D) ∧ (∀ r ∈ D, r.2.2.1 = true) ∧ ∀ x ∈ X, ∀ B w0 W, Hp B w0 W D → AdsAt W x.p x.r.src) (fun _ i _ => 1000 - (intOf i).toNat)
  case atStart => exact ⟨0, [], _, 0, 0, [], [], rfl, by omega, rfl, rfl, by omega, rfl, ⟨rfl, rfl, Nat.le_refl _, by simp [maxLen]⟩, ⟨rfl, by simp⟩, hH, by simp, by simp⟩
  case round =>
    clear hH
    obtain ⟨j, X, g, cc, q, J, D, rfl, hj, hX, hXj, hjm, rfl, hG, oJ, hH, hD, hXD⟩ := hrel
    by_cases hin : j < R.length ∧ (j : Int) < m
    · obtain ⟨hjl, hjm⟩ := hin
      obtain ⟨a, s, c1, ha, fK, fG, fS, fA, _⟩ := HR.out.get hjl
      subst ha
      have dj : decide ((j : Int) < (R.length : Int)) = true := decide_eq_true (by omega)
      have dm : decide ((j : Int) < m) = true := decide_eq_true (by omega)
      have hTake := Lib.hid (show (R.take (j + 1)).map fewR = X.map Rv.r ++ [fewR R[j]] by rw [hX, ← List.take_append_getElem hjl, List.map_append]; rfl)
      have hXD := Lib.hid hXD
      have hD := Lib.hid hD
      have HXj := Lib.hid hXj
      have hX1 : X.length ≤ 1000 := by omega
      clear hX HR hXj
      generalize hr : R[j] = r at *
      clear hr
      obtain ⟨k, G, l⟩ := r
      simp only at fK fG fS fA hTake
      have oG := adL_ok G
      obtain ⟨Y, hYY⟩ : ∃ Y, Y = adL G := ⟨_, rfl⟩
      rw [← hYY] at fG oG
      have HY := Lib.hid hYY
      clear hYY
      go_wp2_with (refine st ?_; clear hH; first | intro W g hH | intro W hH)
      ((with_reducible refine regM hH (SubH.drop SubH.refl) (by kernel_rfl) ?_); (clear hH; intro W hH); (refine hm_takes (fuel := 5) (pk 0 rfl (pk 1 rfl (pk 2 rfl (pk 3 rfl (pk 4 rfl (pk 5 rfl (pk 6 rfl (pk 7 rfl (pk 8 rfl (pk 9 rfl (pk 10 rfl (pk 11 rfl (pk 12 rfl (pk 13 rfl (pk 14 rfl (pk 15 rfl (PickR.nil))))))))))))))))) (by kernel_rfl) (by kernel_rfl) (fun _ _ _ _ _ h => h) hH ?_ ?_; (focus (exact SubI.h)); intro hne; (repeat (first | (go_big_quiet_want; (first | (refine qiL tab_ok rfl rfl ?_; refine ⟨_, _, rfl, rfl, ?_⟩) | (refine qiLi tab_ok rfl rfl ?_; refine ⟨_, _, _, ?_, rfl, rfl, rfl, ?_, ?_⟩; rotate_left; (focus assumption)) | ((first | (refine qLo tab_ok rfl rfl rfl rfl ?_; refine ⟨?_, ?_, ?_⟩; rotate_left; (focus (first | exact fK | exact fS))) | (refine qLoR tab_ok rfl rfl rfl rfl ?_; refine ⟨_, fG, ⟨oG, trivial⟩, rfl, ?_⟩))) | (refine qBd tab_ok rfl rfl rfl rfl ?_; refine ⟨?_, ?_, ?_⟩; rotate_left; (focus (repeat (first | exact BR.nil | refine BR.one rfl rfl rfl ?_ | (refine BR.row rfl rfl rfl rfl ?_ ?_; (focus (repeat (first | exact trivial | assumption | exact OkA.z (by kernel_rfl) (by kernel_rfl) | refine ⟨rfl, ?_⟩ | refine ⟨?_, ?_⟩))))))))); (try simp only [Act.put, pA, pB, pC]); go_big_quiet_on) | go_big_quiet_step (fail))); refine hm_nil ?_; clear hne); refine mo 16 ?_; go_wp2_with (first | ((go_at_call 76; refine hAddrs hH (fA.below hH.below) ?_; (clear hH; intro W ga ca qa Ja l6 hl6 hH); (try simp only [Act.put, List.setIfInBounds_toArray, List.set_cons_succ, List.set_cons_zero]))) | (((first | (refine hApp 2 0 tab_ok tabs_ok rfl rfl rfl rfl rfl rfl rfl hH rfl rfl rfl rfl ?_; refine ⟨?_, ?_, ?_⟩; (focus assumption); (focus (first | omega | (simp; omega))))); clear hH; intro W g c p q J hG hL hJ hH; (try simp only [putH, fls, List.append_nil] at hH hL); (try simp only [Act.put, pA, pB, pC]))) | (refine st ?_; clear hH; first | intro W g hH | intro W hH)); refine me ?_; (refine hm_takes (fuel := 3) (pk 17 rfl (PickR.nil)) (by kernel_rfl) (by kernel_rfl) (fun _ _ _ _ _ h => h) hH ?_ ?_; (focus (exact SubI.h)); intro hne; (repeat (first | (go_big_quiet_want; (first | (refine qiL tab_ok rfl rfl ?_; refine ⟨_, _, rfl, rfl, ?_⟩) | (refine qiLi tab_ok rfl rfl ?_; refine ⟨_, _, _, ?_, rfl, rfl, rfl, ?_, ?_⟩; rotate_left; (focus assumption)) | ((first | (refine qLo tab_ok rfl rfl rfl rfl ?_; refine ⟨?_, ?_, ?_⟩; rotate_left; (focus (first | exact fK | exact fS))) | (refine qLoR tab_ok rfl rfl rfl rfl ?_; refine ⟨_, fG, ⟨oG, trivial⟩, rfl, ?_⟩))) | (refine qBd tab_ok rfl rfl rfl rfl ?_; refine ⟨?_, ?_, ?_⟩; rotate_left; (focus (repeat (first | exact BR.nil | refine BR.one rfl rfl rfl ?_ | (refine BR.row rfl rfl rfl rfl ?_ ?_; (focus (repeat (first | exact trivial | assumption | exact OkA.z (by kernel_rfl) (by kernel_rfl) | refine ⟨rfl, ?_⟩ | refine ⟨?_, ?_⟩))))))))); (try simp only [Act.put, pA, pB, pC]); go_big_quiet_on) | go_big_quiet_step (fail))); refine hm_nil ?_; clear hne); refine mo 18 ?_; go_wp2_with (first | ((go_at_call 76; refine hAddrs hH (fA.below hH.below) ?_; (clear hH; intro W ga ca qa Ja l6 hl6 hH); (try simp only [Act.put, List.setIfInBounds_toArray, List.set_cons_succ, List.set_cons_zero]))) | (((first | (refine hApp 2 0 tab_ok tabs_ok rfl rfl rfl rfl rfl rfl rfl hH rfl rfl rfl rfl ?_; refine ⟨?_, ?_, ?_⟩; (focus assumption); (focus (first | omega | (simp; omega))))); clear hH; intro W g c p q J hG hL hJ hH; (try simp only [putH, fls, List.append_nil] at hH hL); (try simp only [Act.put, pA, pB, pC]))) | (refine st ?_; clear hH; first | intro W g hH | intro W hH)); refine me ?_; refine mo 19 ?_; go_wp2_with (first | ((go_at_call 76; refine hAddrs hH (fA.below hH.below) ?_; (clear hH; intro W ga ca qa Ja l6 hl6 hH); (try simp only [Act.put, List.setIfInBounds_toArray, List.set_cons_succ, List.set_cons_zero]))) | (((first | (refine hApp 2 0 tab_ok tabs_ok rfl rfl rfl rfl rfl rfl rfl hH rfl rfl rfl rfl ?_; refine ⟨?_, ?_, ?_⟩; (focus assumption); (focus (first | omega | (simp; omega))))); clear hH; intro W g c p q J hG hL hJ hH; (try simp only [putH, fls, List.append_nil] at hH hL); (try simp only [Act.put, pA, pB, pC]))) | (refine st ?_; clear hH; first | intro W g hH | intro W hH)); refine me ?_; (refine hm_takes (fuel := 0) (pk 20 rfl (PickR.nil)) (by kernel_rfl) (by kernel_rfl) (fun _ _ _ _ _ h => h) hH ?_ ?_; (focus (exact SubI.h)); intro hne; (repeat (first | (go_big_quiet_want; (first | ((first | (refine qLo tab_ok rfl rfl rfl rfl ?_; refine ⟨?_, ?_, ?_⟩; rotate_left; (focus (first | exact fK | exact fS))) | (refine qLoR tab_ok rfl rfl rfl rfl ?_; refine ⟨_, fG, ⟨oG, trivial⟩, rfl, ?_⟩)))); (try simp only [Act.put, pA, pB, pC]); go_big_quiet_on) | go_big_quiet_step (fail))); refine hm_nil ?_; clear hne); refine hm_end (by kernel_rfl) ?_)
      go_wp2_with (refine st ?_; clear hH; first | intro W g hH | intro W hH)
      have hp := hG.hp
      have hq := hG.hq
      have hle := hG.le
      have hmo := hG.most
      clear hG
      have h6 : l6.length ≤ 6 := by rw [hl6.out, List.length_take]; omega
      refine ⟨⟨j + 1, X ++ [⟨⟨k, G, l6⟩, some ⟨ga, 0, none⟩, ca⟩], g, c, q, J, (ga, 25, true, [.many (adsL l6) (l6.length * 17), .many Ja qa]) :: D, by simp, by omega, ?_, by simp [HXj.out], by omega, by simp, ?_, hJ, ?_, ?_, ?_⟩, by simp [intOf]; omega⟩
      · rw [hTake.out, List.map_append]
        unfold fewR
        rw [← hl6.out]
        rfl
      · have e1 : (X ++ [(⟨⟨k, G, l6⟩, some ⟨ga, 0, none⟩, ca⟩ : Rv)]).length = X.length + 1 := by simp
        rw [e1]
        exact ⟨rfl, by rw [← hq, hp], hle, hmo⟩
      · have e1 : (X ++ [(⟨⟨k, G, l6⟩, some ⟨ga, 0, none⟩, ca⟩ : Rv)]).length * 19 = p := by rw [hp]; simp
        have e2 : rvsL (X ++ [(⟨⟨k, G, l6⟩, some ⟨ga, 0, none⟩, ca⟩ : Rv)]) = rvsL X ++ (.int .i64 k :: (Y ++ [.slice (some ⟨ga, 0, none⟩) l6.length ca])) := by rw [rvsL_snoc, HY.out]; rfl
        rw [e1, e2]
        exact (hH.sub (SubH.drop SubH.refl)).perm (List.Perm.swap _ _ _)
      · intro r hr
        rcases List.mem_cons.1 hr with rfl | hr
        · rfl
        · exact hD.out r hr
      · intro x hx B w0 W h
        rcases List.mem_append.1 hx with hx | hx
        · exact hXD.out x hx _ _ _ (h.sub (SubH.drop SubH.refl))
        · obtain rfl := List.mem_singleton.1 hx
          exact adsAt_row (L := l6) (Nat.le_trans h6 (by decide)) (by have := (h.rows.mem (i := 0) rfl).1; rwa [fls_two] at this)
    · have hend := Lib.hid (show (R.take m.toNat).map fewR = X.map Rv.r by
        rw [hX]
        congr 1
        have hXj' : (R.take j).length = j := by rw [← List.length_map (f := fewR), ← hX, List.length_map, hXj]
        rw [List.length_take] at hXj'
        by_cases h : R.length ≤ j
        · rw [List.take_of_length_le h, List.take_of_length_le]
          omega
        · congr 1; omega)
      clear hX
      have hcase : (R.length ≤ j ∧ decide ((j : Int) < (R.length : Int)) = false) ∨ (j < R.length ∧ m ≤ (j : Int) ∧ decide ((j : Int) < (R.length : Int)) = true ∧ decide ((j : Int) < m) = false) := by
        by_cases h1 : j < R.length
        · exact .inr ⟨h1, by omega, decide_eq_true (by omega), decide_eq_false (by omega)⟩
        · exact .inl ⟨by omega, decide_eq_false (by omega)⟩
      clear HR hin
      have hXm : X.length ≤ 9223372036854775807 := by omega
      have hXD := Lib.hid hXD
      have hD := Lib.hid hD
      rcases hcase with ⟨hj1, dj⟩ | ⟨hj1, hj2, dj, dm⟩
      all_goals
        go_wp2_with (refine st ?_; clear hH; first | intro W g hH | intro W hH)
        go_ret
        refine RcsPost.mk (D := (g, 119, true, [.many (rvsL X) (X.length * 19), .many J q]) :: D) (by rw [hend.out, List.length_map]; rfl) ⟨hH, fun r hr => ?_⟩ (fun B w0 W h => ?_)
        · rcases List.mem_cons.1 hr with rfl | hr
          · rfl
          · exact hD.out r hr
        · rw [hend.out]
          exact rcsAt_row hXm (by have := (h.rows.mem (i := 0) rfl).1; rwa [fls_two] at this) (fun x hx => hXD.out x hx _ _ _ (h.sub (SubH.drop SubH.refl)))
theorem hRecs {B : Nat} {w0 W : World} {H : HB} {R : List Rc} {Q : Ending → World → Prop} (hH : Hp B w0 W H) (h : RcsAt W p R) (hR : ∀ W' g c D R', Hid (R' = (R.take 6).map fewR) → Hid (∀ B w0 W, Hp B w0 W D → RcsAt W (some ⟨g, 0, none⟩) R') → Hid (∀ r ∈ D, r.2.2.1 = true) → Hp B w0 W' (H ++ D) → Q (.returned (.slice (some ⟨g, 0, none⟩) R'.length c)) W') :
    Calls Tryz.prog 77 #[.slice p R.length c, .int .i64 6] W Q :=
  (records_any (m := 6) (by omega) h).mono fun _ _ ⟨g, c, D, he, hm, hr⟩ => by subst he; exact hR _ g c D _ (Lib.hid rfl) (Lib.hid hr) (Lib.hid hm.2) (hH.join hm)
def fewT (T : Tk) : Tk := { T with src := T.src.take 6, recs := (T.recs.take 6).map fewR }
/-- a talk whose parts lie in blocks that nobody changes -/
def TkIn (D : HB) (sp rp : Option Addr) (T : Tk) : Prop := ∀ B w0 W, Hp B w0 W D → AdsAt W sp T.src ∧ RcsAt W rp T.recs
def TkPost (w : World) (T : Tk) (e : Ending) (w' : World) : Prop := ∃ sp sc rp rc D, e = .returned (.agg (fls (tkS T sp sc rp rc)).toArray) ∧ Made w w' D ∧ TkIn D sp rp T
theorem TkPost.mk {w : World} {T : Tk} {e : Ending} {w' : World} {sp rp : Option Addr} {sc rc : Nat} {D : HB} (h1 : e = .returned (.agg (fls (tkS T sp sc rp rc)).toArray)) (h2 : Made w w' D) (h3 : TkIn D sp rp T) : TkPost w T e w' := ⟨sp, sc, rp, rc, D, h1, h2, h3⟩
set_option maxHeartbeats 1000000 in
theorem few_any {T : Tk} {sp rp : Option Addr} {sc rc : Nat} (hS : AdsAt w sp T.src) (hR : RcsAt w rp T.recs) : Calls Tryz.prog 33 #[.agg (fls (tkS T sp sc rp rc)).toArray] w fun e w' => TkPost w (fewT T) e w' := by
  have oG := adL_ok T.grp
  have hH := Hp.refl w
  go_enter Tryz.func33, Tryz.ntmps33
  go_wp2_with (refine st ?_; clear hH; first | intro W g hH | intro W hH)
  ((with_reducible refine regM hH (SubH.nil) (by kernel_rfl) ?_); (clear hH; intro W hH); refine mtt [0, 3] ?_; refine hm_two (fuel := 7) 1 4 rfl rfl (by kernel_rfl) ?_ ?_; (focus (go_wp2_with (first | ((go_at_call 76; refine hAddrs hH (hS.below hH.below) ?_; (clear hH; intro W ga ca qa Ja l6 hl6 hH); (try simp only [Act.put, List.setIfInBounds_toArray, List.set_cons_succ, List.set_cons_zero]))) | ((go_at_call 77; refine hRecs hH (hR.below hH.below) ?_; (clear hH; intro W gr cr Dr Rs hRs hRD hDr hH); (try simp only [List.cons_append, List.nil_append] at hH); (try simp only [Act.put, List.setIfInBounds_toArray, List.set_cons_succ, List.set_cons_zero]))) | (refine st ?_; clear hH; first | intro W g hH | intro W hH)); refine me ?_; refine hm_two (fuel := 6) 2 4 rfl rfl (by kernel_rfl) ?_ ?_; (focus (go_wp2_with (first | ((go_at_call 76; refine hAddrs hH (hS.below hH.below) ?_; (clear hH; intro W ga ca qa Ja l6 hl6 hH); (try simp only [Act.put, List.setIfInBounds_toArray, List.set_cons_succ, List.set_cons_zero]))) | ((go_at_call 77; refine hRecs hH (hR.below hH.below) ?_; (clear hH; intro W gr cr Dr Rs hRs hRD hDr hH); (try simp only [List.cons_append, List.nil_append] at hH); (try simp only [Act.put, List.setIfInBounds_toArray, List.set_cons_succ, List.set_cons_zero]))) | (refine st ?_; clear hH; first | intro W g hH | intro W hH)); refine me ?_; refine mo 4 ?_; go_wp2_with (first | ((go_at_call 76; refine hAddrs hH (hS.below hH.below) ?_; (clear hH; intro W ga ca qa Ja l6 hl6 hH); (try simp only [Act.put, List.setIfInBounds_toArray, List.set_cons_succ, List.set_cons_zero]))) | ((go_at_call 77; refine hRecs hH (hR.below hH.below) ?_; (clear hH; intro W gr cr Dr Rs hRs hRD hDr hH); (try simp only [List.cons_append, List.nil_append] at hH); (try simp only [Act.put, List.setIfInBounds_toArray, List.set_cons_succ, List.set_cons_zero]))) | (refine st ?_; clear hH; first | intro W g hH | intro W hH)); refine me ?_; refine mtt [6] ?_; refine mo 5 ?_; go_wp2_with (first | ((go_at_call 76; refine hAddrs hH (hS.below hH.below) ?_; (clear hH; intro W ga ca qa Ja l6 hl6 hH); (try simp only [Act.put, List.setIfInBounds_toArray, List.set_cons_succ, List.set_cons_zero]))) | ((go_at_call 77; refine hRecs hH (hR.below hH.below) ?_; (clear hH; intro W gr cr Dr Rs hRs hRD hDr hH); (try simp only [List.cons_append, List.nil_append] at hH); (try simp only [Act.put, List.setIfInBounds_toArray, List.set_cons_succ, List.set_cons_zero]))) | (refine st ?_; clear hH; first | intro W g hH | intro W hH)); refine me ?_; refine mo 7 ?_; go_wp2_with (first | ((go_at_call 76; refine hAddrs hH (hS.below hH.below) ?_; (clear hH; intro W ga ca qa Ja l6 hl6 hH); (try simp only [Act.put, List.setIfInBounds_toArray, List.set_cons_succ, List.set_cons_zero]))) | ((go_at_call 77; refine hRecs hH (hR.below hH.below) ?_; (clear hH; intro W gr cr Dr Rs hRs hRD hDr hH); (try simp only [List.cons_append, List.nil_append] at hH); (try simp only [Act.put, List.setIfInBounds_toArray, List.set_cons_succ, List.set_cons_zero]))) | (refine st ?_; clear hH; first | intro W g hH | intro W hH)); refine me ?_; refine mtt [8] ?_; refine mo 9 ?_; go_wp2_with (first | ((go_at_call 76; refine hAddrs hH (hS.below hH.below) ?_; (clear hH; intro W ga ca qa Ja l6 hl6 hH); (try simp only [Act.put, List.setIfInBounds_toArray, List.set_cons_succ, List.set_cons_zero]))) | ((go_at_call 77; refine hRecs hH (hR.below hH.below) ?_; (clear hH; intro W gr cr Dr Rs hRs hRD hDr hH); (try simp only [List.cons_append, List.nil_append] at hH); (try simp only [Act.put, List.setIfInBounds_toArray, List.set_cons_succ, List.set_cons_zero]))) | (refine st ?_; clear hH; first | intro W g hH | intro W hH)); refine me ?_; refine hm_end (by kernel_rfl) ?_)); rotate_left 1; (focus (go_wp2_with (first | ((go_at_call 76; refine hAddrs hH (hS.below hH.below) ?_; (clear hH; intro W ga ca qa Ja l6 hl6 hH); (try simp only [Act.put, List.setIfInBounds_toArray, List.set_cons_succ, List.set_cons_zero]))) | ((go_at_call 77; refine hRecs hH (hR.below hH.below) ?_; (clear hH; intro W gr cr Dr Rs hRs hRD hDr hH); (try simp only [List.cons_append, List.nil_append] at hH); (try simp only [Act.put, List.setIfInBounds_toArray, List.set_cons_succ, List.set_cons_zero]))) | (refine st ?_; clear hH; first | intro W g hH | intro W hH)); refine me ?_; refine mo 2 ?_; go_wp2_with (first | ((go_at_call 76; refine hAddrs hH (hS.below hH.below) ?_; (clear hH; intro W ga ca qa Ja l6 hl6 hH); (try simp only [Act.put, List.setIfInBounds_toArray, List.set_cons_succ, List.set_cons_zero]))) | ((go_at_call 77; refine hRecs hH (hR.below hH.below) ?_; (clear hH; intro W gr cr Dr Rs hRs hRD hDr hH); (try simp only [List.cons_append, List.nil_append] at hH); (try simp only [Act.put, List.setIfInBounds_toArray, List.set_cons_succ, List.set_cons_zero]))) | (refine st ?_; clear hH; first | intro W g hH | intro W hH)); refine me ?_; refine mtt [6] ?_; refine mo 5 ?_; go_wp2_with (first | ((go_at_call 76; refine hAddrs hH (hS.below hH.below) ?_; (clear hH; intro W ga ca qa Ja l6 hl6 hH); (try simp only [Act.put, List.setIfInBounds_toArray, List.set_cons_succ, List.set_cons_zero]))) | ((go_at_call 77; refine hRecs hH (hR.below hH.below) ?_; (clear hH; intro W gr cr Dr Rs hRs hRD hDr hH); (try simp only [List.cons_append, List.nil_append] at hH); (try simp only [Act.put, List.setIfInBounds_toArray, List.set_cons_succ, List.set_cons_zero]))) | (refine st ?_; clear hH; first | intro W g hH | intro W hH)); refine me ?_; refine mo 7 ?_; go_wp2_with (first | ((go_at_call 76; refine hAddrs hH (hS.below hH.below) ?_; (clear hH; intro W ga ca qa Ja l6 hl6 hH); (try simp only [Act.put, List.setIfInBounds_toArray, List.set_cons_succ, List.set_cons_zero]))) | ((go_at_call 77; refine hRecs hH (hR.below hH.below) ?_; (clear hH; intro W gr cr Dr Rs hRs hRD hDr hH); (try simp only [List.cons_append, List.nil_append] at hH); (try simp only [Act.put, List.setIfInBounds_toArray, List.set_cons_succ, List.set_cons_zero]))) | (refine st ?_; clear hH; first | intro W g hH | intro W hH)); refine me ?_; refine mtt [8] ?_; refine mo 9 ?_; go_wp2_with (first | ((go_at_call 76; refine hAddrs hH (hS.below hH.below) ?_; (clear hH; intro W ga ca qa Ja l6 hl6 hH); (try simp only [Act.put, List.setIfInBounds_toArray, List.set_cons_succ, List.set_cons_zero]))) | ((go_at_call 77; refine hRecs hH (hR.below hH.below) ?_; (clear hH; intro W gr cr Dr Rs hRs hRD hDr hH); (try simp only [List.cons_append, List.nil_append] at hH); (try simp only [Act.put, List.setIfInBounds_toArray, List.set_cons_succ, List.set_cons_zero]))) | (refine st ?_; clear hH; first | intro W g hH | intro W hH)); refine me ?_; refine hm_end (by kernel_rfl) ?_)))); rotate_left 2; (focus (go_wp2_with (first | ((go_at_call 76; refine hAddrs hH (hS.below hH.below) ?_; (clear hH; intro W ga ca qa Ja l6 hl6 hH); (try simp only [Act.put, List.setIfInBounds_toArray, List.set_cons_succ, List.set_cons_zero]))) | ((go_at_call 77; refine hRecs hH (hR.below hH.below) ?_; (clear hH; intro W gr cr Dr Rs hRs hRD hDr hH); (try simp only [List.cons_append, List.nil_append] at hH); (try simp only [Act.put, List.setIfInBounds_toArray, List.set_cons_succ, List.set_cons_zero]))) | (refine st ?_; clear hH; first | intro W g hH | intro W hH)); refine me ?_; refine mo 1 ?_; go_wp2_with (first | ((go_at_call 76; refine hAddrs hH (hS.below hH.below) ?_; (clear hH; intro W ga ca qa Ja l6 hl6 hH); (try simp only [Act.put, List.setIfInBounds_toArray, List.set_cons_succ, List.set_cons_zero]))) | ((go_at_call 77; refine hRecs hH (hR.below hH.below) ?_; (clear hH; intro W gr cr Dr Rs hRs hRD hDr hH); (try simp only [List.cons_append, List.nil_append] at hH); (try simp only [Act.put, List.setIfInBounds_toArray, List.set_cons_succ, List.set_cons_zero]))) | (refine st ?_; clear hH; first | intro W g hH | intro W hH)); refine me ?_; refine mo 2 ?_; go_wp2_with (first | ((go_at_call 76; refine hAddrs hH (hS.below hH.below) ?_; (clear hH; intro W ga ca qa Ja l6 hl6 hH); (try simp only [Act.put, List.setIfInBounds_toArray, List.set_cons_succ, List.set_cons_zero]))) | ((go_at_call 77; refine hRecs hH (hR.below hH.below) ?_; (clear hH; intro W gr cr Dr Rs hRs hRD hDr hH); (try simp only [List.cons_append, List.nil_append] at hH); (try simp only [Act.put, List.setIfInBounds_toArray, List.set_cons_succ, List.set_cons_zero]))) | (refine st ?_; clear hH; first | intro W g hH | intro W hH)); refine me ?_; refine mtt [6] ?_; refine mo 5 ?_; go_wp2_with (first | ((go_at_call 76; refine hAddrs hH (hS.below hH.below) ?_; (clear hH; intro W ga ca qa Ja l6 hl6 hH); (try simp only [Act.put, List.setIfInBounds_toArray, List.set_cons_succ, List.set_cons_zero]))) | ((go_at_call 77; refine hRecs hH (hR.below hH.below) ?_; (clear hH; intro W gr cr Dr Rs hRs hRD hDr hH); (try simp only [List.cons_append, List.nil_append] at hH); (try simp only [Act.put, List.setIfInBounds_toArray, List.set_cons_succ, List.set_cons_zero]))) | (refine st ?_; clear hH; first | intro W g hH | intro W hH)); refine me ?_; refine mo 7 ?_; go_wp2_with (first | ((go_at_call 76; refine hAddrs hH (hS.below hH.below) ?_; (clear hH; intro W ga ca qa Ja l6 hl6 hH); (try simp only [Act.put, List.setIfInBounds_toArray, List.set_cons_succ, List.set_cons_zero]))) | ((go_at_call 77; refine hRecs hH (hR.below hH.below) ?_; (clear hH; intro W gr cr Dr Rs hRs hRD hDr hH); (try simp only [List.cons_append, List.nil_append] at hH); (try simp only [Act.put, List.setIfInBounds_toArray, List.set_cons_succ, List.set_cons_zero]))) | (refine st ?_; clear hH; first | intro W g hH | intro W hH)); refine me ?_; refine mtt [8] ?_; refine mo 9 ?_; go_wp2_with (first | ((go_at_call 76; refine hAddrs hH (hS.below hH.below) ?_; (clear hH; intro W ga ca qa Ja l6 hl6 hH); (try simp only [Act.put, List.setIfInBounds_toArray, List.set_cons_succ, List.set_cons_zero]))) | ((go_at_call 77; refine hRecs hH (hR.below hH.below) ?_; (clear hH; intro W gr cr Dr Rs hRs hRD hDr hH); (try simp only [List.cons_append, List.nil_append] at hH); (try simp only [Act.put, List.setIfInBounds_toArray, List.set_cons_succ, List.set_cons_zero]))) | (refine st ?_; clear hH; first | intro W g hH | intro W hH)); refine me ?_; refine hm_end (by kernel_rfl) ?_)))
  all_goals
    go_wp2_with (refine st ?_; clear hH; first | intro W g hH | intro W hH)
    (refine iRet Tryz.results33 tab_ok rfl rfl hH ?_; refine ⟨_, _, rfl, rfl, rfl, ?_⟩)
    have hT : fewT T = { T with src := l6, recs := Rs } := by unfold fewT; rw [hl6.out, hRs.out]
    rw [hT]
    refine TkPost.mk (D := (ga, 25, true, [.many (adsL l6) (l6.length * 17), .many Ja qa]) :: Dr) rfl ⟨hH.sub ?_, ?_⟩ ?_
    · exact SubH.keep (SubH.drop (SubH.drop SubH.refl))
    · intro r hr
      rcases List.mem_cons.1 hr with rfl | hr
      · rfl
      · exact hDr.out r hr
    · intro B w0 W h
      refine ⟨adsAt_row (L := l6) ?_ (by have := (h.rows.mem (i := 0) rfl).1; rwa [fls_two] at this), hRD.out _ _ _ (h.sub (SubH.drop SubH.refl))⟩
      have h6 : l6.length ≤ 6 := by rw [hl6.out, List.length_take]; omega
      exact Nat.le_trans h6 (by decide)
end
end Go.Proofs.YtdnehjhijmeihaaGreat
