/-
  Joined texts: Gj, Gk, Goz.
-/
import Derived.Test.YtdnehjhijmeihaaGreatQGiz
import Derived.Test.YtdnehjhijmeihaaGreatQSl
namespace Go.Proofs.YtdnehjhijmeihaaGreat
-- %in
open Go.ChangeShapes Go.WideShapes Go.ChangeAt Go.RowKit
set_option linter.unusedVariables false
set_option linter.unusedSimpArgs false
set_option maxRecDepth 20000
attribute [local irreducible] wpList

def ad4 (s : ByteArray) (k : Nat) : Ad := adR (s.extract k (k + 4))
def srcAt (s : ByteArray) (k n : Nat) : List Ad := (List.range n).map fun i => ad4 s (k + 4 * i)
def rSrcF (s : ByteArray) (k n : Nat) : List Ad × Int := if 64 < n then ([], 6) else if s.size < k + 4 * n then ([], 3) else (srcAt s k n, 0)
theorem srcAt_len (s : ByteArray) (k n : Nat) : (srcAt s k n).length = n := by simp [srcAt]
theorem srcAt_snoc (s : ByteArray) (k n : Nat) : srcAt s k (n + 1) = srcAt s k n ++ [ad4 s (k + 4 * n)] := by simp [srcAt, List.range_succ]
def SrcPost (w : World) (L : List Ad) (c : Int) (e : Ending) (w' : World) : Prop := ∃ p cc D, e = .returned (.tuple #[.slice p L.length cc, .int .i64 c]) ∧ Made w w' D ∧ ∀ B w0 W, Hp B w0 W D → AdsAt W p L
theorem SrcPost.mk {w : World} {L : List Ad} {c : Int} {e : Ending} {w' : World} {p : Option Addr} {cc : Nat} {D : HB} (h1 : e = .returned (.tuple #[.slice p L.length cc, .int .i64 c])) (h2 : Made w w' D) (h3 : ∀ B w0 W, Hp B w0 W D → AdsAt W p L) : SrcPost w L c e w' := ⟨p, cc, D, h1, h2, h3⟩
section
variable {w : World} {s : ByteArray}
set_option maxHeartbeats 1000000 in
theorem rfour_any {k : Nat} (hk : k + 4 ≤ s.size) (hs : s.size ≤ 100000) : Gives Tryz.prog 67 #[.string s, .int .i64 (k : Int)] w (.agg (fls [.many (adL (ad4 s k)) 17]).toArray) := by
  have hx : (s.extract k (k + 4)).size = 4 := by rw [extract_size hk (by omega)]; omega
  have ra : ∀ w, Gives Tryz.prog 60 #[.string (s.extract k (k + 4))] w (.tuple #[.agg (fls [.many (adL (ad4 s k)) 17]).toArray, .bool true]) := fun w => by
    unfold ad4
    rw [adR_four hx, addr_segs1]
    exact raRead_one (b := false) (by simpa using hx)
  have oA := adL_ok (ad4 s k)
  generalize adL (ad4 s k) = A at *
  clear hx
  have d1 : decide ((k : Int) + 4 ≤ (s.size : Int)) = true := decide_eq_true (by omega)
  have d2 : (k : Int) + 4 ≤ (s.size : Int) := by omega
  refine Gives.of ?_
  have hH := Hp.refl w
  go_enter Tryz.func67, Tryz.ntmps67
  go_wp2_with (first | (refine st ?_; clear hH; (first | intro W g hH | intro W hH)))
  (refine iRet Tryz.results67 tab_ok rfl rfl hH ?_; refine ⟨_, _, rfl, rfl, rfl, ?_⟩)
  exact ⟨rfl, hH.below⟩
set_option maxHeartbeats 1000000 in
theorem rsources_any {k n : Nat} (hn : n < 65536) (hk : k ≤ 200000) (hs : s.size ≤ 100000) : Calls Tryz.prog 119 #[.string s, .int .i64 (k : Int), .int .i64 (n : Int)] w fun e w' => SrcPost w (rSrcF s k n).1 (rSrcF s k n).2 e w' := by
  have hH := Hp.refl w
  unfold rSrcF
  by_cases h64 : 64 < n
  · rw [if_pos h64]
    have d1 : decide ((64 : Int) < (n : Int)) = true := decide_eq_true (by omega)
    go_enter Tryz.func119, Tryz.ntmps119
    go_wp2_with (first | ((refine hSl0 tab_ok rfl ?_ tabs_ok rfl rfl rfl hH ?_; (focus (first | exact wN rfl | exact rfl)); clear hH; intro W g hH; (try simp only [Act.put, pA, pB, pC]))) | (refine st ?_; clear hH; (first | intro W g hH | intro W hH)))
    go_ret2
    exact SrcPost.mk (L := []) (p := some ⟨g, 0, none⟩) (cc := 0) (D := []) rfl ⟨hH.nil, by simp⟩ (fun B w0 W h => AdsAt.nil)
  rw [if_neg h64]
  have d1 : decide ((64 : Int) < (n : Int)) = false := decide_eq_false (by omega)
  by_cases hz : s.size < k + 4 * n
  · rw [if_pos hz]
    have d2 : decide ((s.size : Int) < (k : Int) + 4 * (n : Int)) = true := decide_eq_true (by omega)
    have d3 : (s.size : Int) < (k : Int) + 4 * (n : Int) := by omega
    clear h64 hz
    go_enter Tryz.func119, Tryz.ntmps119
    go_wp2_with (first | ((refine hSl0 tab_ok rfl ?_ tabs_ok rfl rfl rfl hH ?_; (focus (first | exact wN rfl | exact rfl)); clear hH; intro W g hH; (try simp only [Act.put, pA, pB, pC]))) | (refine st ?_; clear hH; (first | intro W g hH | intro W hH)))
    go_ret2
    exact SrcPost.mk (L := []) (p := some ⟨g, 0, none⟩) (cc := 0) (D := []) rfl ⟨hH.nil, by simp⟩ (fun B w0 W h => AdsAt.nil)
  rw [if_neg hz]
  have d2 : decide ((s.size : Int) < (k : Int) + 4 * (n : Int)) = false := decide_eq_false (by omega)
  have d3 : (k : Int) + 4 * (n : Int) ≤ (s.size : Int) := by omega
  have HZ := Lib.hid hz
  clear hz
  go_enter Tryz.func119, Tryz.ntmps119
  go_wp2_with (first | ((refine hSl0 tab_ok rfl ?_ tabs_ok rfl rfl rfl hH ?_; (focus (first | exact wN rfl | exact rfl)); clear hH; intro W g hH; (try simp only [Act.put, pA, pB, pC]))) | (refine st ?_; clear hH; (first | intro W g hH | intro W hH)))
  clear d1 d2 d3
  go_loopw [8, 9] (fun sl i wr => ∃ (j : Nat) (X : List Ad) (go cc q : Nat) (J : List Value), i = .int .i64 (j : Int) ∧ j ≤ n ∧ Hid (X = srcAt s k j) ∧ X.length = j ∧ sl = .slice (some ⟨go, 0, none⟩) X.length cc ∧ Grow 17 X.length cc (X.length * 17) q ∧ OkA J q ∧ Hp w.heap.size w wr [(go, 25, true, [.many (adsL X) (X.length * 17), .many J q])]) (fun _ i _ => n - (intOf i).toNat)
  case atStart => exact ⟨0, [], g, 0, 0, [], rfl, by omega, Lib.hid rfl, rfl, rfl, ⟨rfl, rfl, Nat.le_refl _, by simp [maxLen]⟩, ⟨rfl, by simp⟩, hH⟩
  case round =>
    clear hH
    obtain ⟨j, X, go, cc, q, J, rfl, hj, hX, hXj, rfl, hG, oJ, hH⟩ := hrel
    by_cases hjn : j < n
    · have dj : decide ((j : Int) < (n : Int)) = true := decide_eq_true (by omega)
      have hk4 : k + 4 * j + 4 ≤ s.size := by have := HZ.out; omega
      have f4 : ∀ w, Gives Tryz.prog 67 #[.string s, .int .i64 ((k : Int) + 4 * (j : Int))] w (.agg (fls [.many (adL (ad4 s (k + 4 * j))) 17]).toArray) := fun w => by
        have := rfour_any (w := w) (k := k + 4 * j) hk4 hs
        rwa [show ((k + 4 * j : Nat) : Int) = (k : Int) + 4 * (j : Int) by push_cast; rfl] at this
      have oY := adL_ok (ad4 s (k + 4 * j))
      have hSnoc := Lib.hid (adsL_snoc X (ad4 s (k + 4 * j)))
      have hNew := Lib.hid (show X ++ [ad4 s (k + 4 * j)] = srcAt s k (j + 1) by rw [srcAt_snoc, hX.out])
      generalize ad4 s (k + 4 * j) = y at *
      obtain ⟨Y, hY⟩ : ∃ Y, Y = adL y := ⟨_, rfl⟩
      rw [← hY] at f4 oY hSnoc
      clear hY hk4 hX
      have hXj := Lib.hid hXj
      have hX64 : X.length ≤ 64 := by have := hXj.out; omega
      go_wp2_with (first | (((first | (refine hApp 1 0 tab_ok tabs_ok rfl rfl rfl rfl rfl rfl rfl hH rfl rfl rfl rfl ?_; refine ⟨?_, ?_, ?_⟩; (focus assumption); (focus (first | omega | (simp; omega))))); clear hH; intro W g c p q J hG hL hJ hH; (try simp only [putH, fls, List.append_nil] at hH hL); (try simp only [Act.put, pA, pB, pC]))) | (refine st ?_; clear hH; (first | intro W g hH | intro W hH)))
      have hp := hG.hp
      have hq := hG.hq
      have hle := hG.le
      have hmo := hG.most
      have e1 : (X ++ [y]).length = X.length + 1 := by simp
      refine ⟨⟨j + 1, X ++ [y], g, c, q, J, by simp, by omega, hNew, by rw [e1, hXj.out], by simp, by rw [e1]; exact ⟨rfl, by rw [← hq, hp], hle, hmo⟩, hJ, ?_⟩, by simp [intOf]; omega⟩
      rw [show (X ++ [y]).length * 17 = p by rw [hp, e1], hSnoc.out]
      exact hH.sub (SubH.drop SubH.refl)
    · have dj : decide ((j : Int) < (n : Int)) = false := decide_eq_false (by omega)
      have e : j = n := by omega
      have hXm : X.length ≤ 9223372036854775807 := by omega
      have HL := Lib.hid (show srcAt s k n = X by rw [hX.out, e])
      clear hX hXj e hG
      go_wp2_with (first | (refine st ?_; clear hH; (first | intro W g hH | intro W hH)))
      go_ret2
      refine SrcPost.mk (p := some ⟨go, 0, none⟩) (cc := cc) (D := [(go, 25, true, [.many (adsL X) (X.length * 17), .many J q])]) (by rw [HL.out]; rfl) ⟨hH, by simp⟩ (fun B w0 W h => ?_)
      rw [HL.out]
      exact adsAt_row hXm (by have := (h.rows.mem (i := 0) rfl).1; rwa [fls_two] at this)
end
end Go.Proofs.YtdnehjhijmeihaaGreat
namespace Go.Proofs.YtdnehjhijmeihaaGreat
-- %in
open Go.ChangeShapes Go.WideShapes Go.ChangeAt Go.RowKit
set_option linter.unusedVariables false
set_option linter.unusedSimpArgs false
set_option maxRecDepth 20000
attribute [local irreducible] wpList

theorem numAt_get {s : ByteArray} {k : Nat} (h : k < s.size) : s[k].toNat = numAt s k 1 := by
  have hl : k < s.data.toList.length := by rw [size_toList]; exact h
  unfold numAt
  rw [List.drop_eq_getElem_cons hl, List.take_succ_cons, List.take_zero]
  show (s.data[k]).toNat = _
  rw [← Array.getElem_toList]
  simp [numL]
theorem rNumAt8 {s : ByteArray} {i j : Nat} {w : World} (h : i ≤ j) (hj : j ≤ i + 8) : Gives Tryz.prog 22 #[.string (s.extract i j)] w (.int .u64 (numAt s i (j - i) : Int)) := by
  have := rnum_any (s := s.extract i j) (w := w) (Nat.le_trans (cut_size2 s i j) (by omega))
  rwa [toList_extract] at this
theorem run_at {s : ByteArray} {k : Nat} (h : k < s.size) (x : Int) (hx : x = (k : Int)) (W : World) : (Instr.index 9 (.string s) (.int .i64 x)).run Tryz.prog W = .ok (.int .u8 (numAt s k 1 : Int)) W := by
  rw [run_idx Tryz.underlying9 s k h x hx W, numAt_get h]
def recAt (s : ByteArray) (k : Nat) : Rc := ⟨numAt s k 1, ad4 s (k + 4), (rSrcF s (k + 8) (numAt s (k + 2) 2)).1⟩
def okAt (s : ByteArray) (k : Nat) : Bool := decide (0 < numAt s k 1) && (decide (numAt s k 1 < 7) && grp4 (ad4 s (k + 4)))
def endAt (s : ByteArray) (k : Nat) : Nat := k + 8 + 4 * numAt s (k + 2) 2 + 4 * numAt s (k + 1) 1
def rRecL (s : ByteArray) (n : Nat) : Nat → Nat → Nat → List Rc → List Rc × Int
  | 0, _, _, X => (X, 0)
  | f + 1, i, k, X => if i < n then (if s.size < k + 8 then (X, 3) else if (rSrcF s (k + 8) (numAt s (k + 2) 2)).2 ≠ 0 then (X, (rSrcF s (k + 8) (numAt s (k + 2) 2)).2) else if s.size < endAt s k then (X, 3) else rRecL s n f (i + 1) (endAt s k) (if okAt s k then X ++ [recAt s k] else X)) else (X, 0)
def rRecF (s : ByteArray) : List Rc × Int := if 64 < numAt s 6 2 then ([], 6) else rRecL s (numAt s 6 2) 65 0 8 []
theorem rRecL_end {s : ByteArray} {n f i k : Nat} {X : List Rc} (h : ¬i < n) : rRecL s n f i k X = (X, 0) := by
  cases f with
  | zero => rfl
  | succ f => rw [rRecL, if_neg h]
def RecsPost (w : World) (R : List Rc) (c : Int) (e : Ending) (w' : World) : Prop := ∃ p cc D, e = .returned (.tuple #[.slice p R.length cc, .int .i64 c]) ∧ Made w w' D ∧ ∀ B w0 W, Hp B w0 W D → RcsAt W p R
theorem RecsPost.mk {w : World} {R : List Rc} {c : Int} {e : Ending} {w' : World} {p : Option Addr} {cc : Nat} {D : HB} (h1 : e = .returned (.tuple #[.slice p R.length cc, .int .i64 c])) (h2 : Made w w' D) (h3 : ∀ B w0 W, Hp B w0 W D → RcsAt W p R) : RecsPost w R c e w' := ⟨p, cc, D, h1, h2, h3⟩
theorem RecsPost.own {w w' : World} {R : List Rc} {c : Int} {e : Ending} {X : List Rv} {go cc q : Nat} {J : List Value} {D : HB} (hR : R = X.map Rv.r) (h1 : e = .returned (.tuple #[.slice (some ⟨go, 0, none⟩) X.length cc, .int .i64 c])) (hXm : X.length ≤ 1000)
    (hH : Hp w.heap.size w w' ((go, 119, true, [.many (rvsL X) (X.length * 19), .many J q]) :: D)) (HD : Hid (∀ r ∈ D, r.2.2.1 = true)) (HXD : Hid (∀ x ∈ X, ∀ B w0 W, Hp B w0 W D → AdsAt W x.p x.r.src)) : RecsPost w R c e w' := by
  subst hR
  refine RecsPost.mk (D := (go, 119, true, [.many (rvsL X) (X.length * 19), .many J q]) :: D) (p := some ⟨go, 0, none⟩) (cc := cc) (by rw [List.length_map]; exact h1) ⟨hH, fun r hr => ?_⟩ (fun B w0 W h => rcsAt_row (by omega) (by have := (h.rows.mem (i := 0) rfl).1; rwa [fls_two] at this) (fun x hx => HXD.out x hx _ _ _ (h.sub (SubH.drop SubH.refl))))
  rcases List.mem_cons.1 hr with rfl | hr
  · rfl
  · exact HD.out r hr
/-- sources, from any place -/
def SrcR (B : Nat) (w0 : World) (s : ByteArray) (k n : Nat) (L : List Ad) (c : Int) : Prop :=
  ∀ (W : World) (H : HB) (Q : Ending → World → Prop) (x y : Int), x = (k : Int) → y = (n : Int) → Hp B w0 W H → (∀ W' p cc D, Hid (∀ B w0 W, Hp B w0 W D → AdsAt W p L) → Hid (∀ r ∈ D, r.2.2.1 = true) → Hp B w0 W' (H ++ D) → Q (.returned (.tuple #[.slice p L.length cc, .int .i64 c])) W') → Calls Tryz.prog 119 #[.string s, .int .i64 x, .int .i64 y] W Q
theorem rSrcF_ok {s : ByteArray} {k n : Nat} (h : (rSrcF s k n).2 = 0) : n ≤ 64 ∧ k + 4 * n ≤ s.size ∧ (rSrcF s k n).1 = srcAt s k n := by
  unfold rSrcF at *
  split at h
  · simp at h
  · split at h
    · simp at h
    · rename_i h1 h2
      rw [if_neg h1, if_neg h2]
      exact ⟨by omega, by omega, rfl⟩
section
variable {B : Nat} {w0 w : World} {s : ByteArray}
theorem srcR {k n : Nat} (hn : n < 65536) (hk : k ≤ 200000) (hs : s.size ≤ 100000) : SrcR B w0 s k n (rSrcF s k n).1 (rSrcF s k n).2 := by
  intro W H Q x y hx hy hH hQ
  subst hx
  subst hy
  exact (rsources_any hn hk hs).mono fun _ _ ⟨p, cc, D, he, hm, hr⟩ => by subst he; exact hQ _ p cc D (Lib.hid hr) (Lib.hid hm.2) (hH.join hm)
set_option maxHeartbeats 2000000 in
theorem rrecords_any (h8 : 8 ≤ s.size) (hs : s.size ≤ 100000) : Calls Tryz.prog 66 #[.string s] w fun e w' => RecsPost w (rRecF s).1 (rRecF s).2 e w' := by
  have n1 : ∀ w, Gives Tryz.prog 22 #[.string (s.extract 6 8)] w (.int .u64 (numAt s 6 2 : Int)) := fun w => rNumAt8 (by omega) (by omega)
  have hn : numAt s 6 2 < 65536 := numAt_lt s 6 2
  unfold rRecF
  obtain ⟨n, en⟩ : ∃ n, numAt s 6 2 = n := ⟨_, rfl⟩
  rw [en] at n1 hn ⊢
  clear en
  have hH := Hp.refl w
  have dz : decide ((8 : Int) ≤ (s.size : Int)) = true := decide_eq_true (by omega)
  by_cases h64 : 64 < n
  · rw [if_pos h64]
    have d1 : decide ((64 : Int) < (n : Int)) = true := decide_eq_true (by omega)
    go_enter Tryz.func66, Tryz.ntmps66
    go_wp2_with (first | ((refine hSl0 tab_ok rfl ?_ tabs_ok rfl rfl rfl hH ?_; (focus (first | exact wN rfl | exact rfl)); clear hH; intro W g hH; (try simp only [Act.put, pA, pB, pC]))) | (refine st ?_; clear hH; (first | intro W g hH | intro W hH)))
    go_ret2
    exact RecsPost.mk (R := []) (p := some ⟨g, 0, none⟩) (cc := 0) (D := []) rfl ⟨hH.nil, by simp⟩ (fun B w0 W h => RcsAt.nil)
  rw [if_neg h64]
  obtain ⟨res, hres⟩ : ∃ r, rRecL s n 65 0 8 [] = r := ⟨_, rfl⟩
  rw [hres]
  have HL := Lib.hid hres
  clear hres
  have d1 : decide ((64 : Int) < (n : Int)) = false := decide_eq_false (by omega)
  have hn64 : n ≤ 64 := by omega
  clear h64
  go_enter Tryz.func66, Tryz.ntmps66
  go_wp2_with (first | ((refine hSl0 tab_ok rfl ?_ tabs_ok rfl rfl rfl hH ?_; (focus (first | exact wN rfl | exact rfl)); clear hH; intro W g hH; (try simp only [Act.put, pA, pB, pC]))) | (refine st ?_; clear hH; (first | intro W g hH | intro W hH)))
  clear n1 d1 dz
  go_loopw [4, 5, 7] (fun sl at_ i wr => ∃ (j k f : Nat) (X : List Rv) (D : HB) (go cc q : Nat) (J : List Value), i = .int .i64 (j : Int) ∧ at_ = .int .i64 (k : Int) ∧ sl = .slice (some ⟨go, 0, none⟩) X.length cc ∧ Hid (rRecL s n f j k (X.map Rv.r) = res) ∧ f + j = 65 ∧ j ≤ n ∧ k ≤ s.size ∧ X.length ≤ j ∧ Hid (∀ r ∈ D, r.2.2.1 = true) ∧ Hid (∀ x ∈ X, ∀ B w0 W, Hp B w0 W D → AdsAt W x.p x.r.src) ∧ Grow 19 X.length cc (X.length * 19) q ∧ OkA J q ∧ Hp w.heap.size w wr ((go, 119, true, [.many (rvsL X) (X.length * 19), .many J q]) :: D)) (fun _ _ i _ => n - (intOf i).toNat)
  case atStart => exact ⟨0, 8, 65, [], [], g, 0, 0, [], rfl, rfl, rfl, HL, rfl, by omega, h8, by simp, Lib.hid (by simp), Lib.hid (by simp), ⟨rfl, rfl, Nat.le_refl _, by simp [maxLen]⟩, ⟨rfl, by simp⟩, hH⟩
  case round =>
    clear hH HL
    obtain ⟨j, k, f, X, D, go, cc, q, J, rfl, rfl, rfl, HL, hf, hj, hk, hXj, HD, HXD, hG, oJ, hH⟩ := hrel
    have hXm : X.length ≤ 1000 := by omega
    by_cases hjn : j < n
    rotate_left
    · have dj : decide ((j : Int) < (n : Int)) = false := decide_eq_false (by omega)
      have HE := Lib.hid ((rRecL_end (f := f) (k := k) (X := X.map Rv.r) hjn).symm.trans HL.out)
      clear hG hXj HL
      go_wp2_with (first | (refine st ?_; clear hH; (first | intro W g hH | intro W hH)))
      go_ret2
      rw [← HE.out]
      exact RecsPost.own rfl rfl hXm hH HD HXD
    have dj : decide ((j : Int) < (n : Int)) = true := decide_eq_true (by omega)
    obtain ⟨f', rfl⟩ : ∃ f', f = f' + 1 := ⟨f - 1, by omega⟩
    have hL := HL.out
    rw [rRecL, if_pos hjn] at hL
    clear HL
    by_cases h1 : s.size < k + 8
    · rw [if_pos h1] at hL
      have HE := Lib.hid hL
      have d1 : decide ((s.size : Int) < (k : Int) + 8) = true := decide_eq_true (by omega)
      have d2 : (s.size : Int) < (k : Int) + 8 := by omega
      clear hG hXj hL
      go_wp2_with (first | (refine st ?_; clear hH; (first | intro W g hH | intro W hH)))
      go_ret2
      rw [← HE.out]
      exact RecsPost.own rfl rfl hXm hH HD HXD
    rw [if_neg h1] at hL
    have hk8 : k + 8 ≤ s.size := by omega
    have d1 : decide ((s.size : Int) < (k : Int) + 8) = false := decide_eq_false (by omega)
    have d2 : (k : Int) + 8 ≤ (s.size : Int) := by omega
    have d3 : (k : Int) + 4 ≤ (s.size : Int) := by omega
    have d4 : decide ((k : Int) + 4 ≤ (s.size : Int)) = true := decide_eq_true (by omega)
    have d5 : decide ((k : Int) + 2 ≤ (k : Int) + 4) = true := decide_eq_true (by omega)
    have n2 : ∀ w, Gives Tryz.prog 22 #[.string (s.extract (k + 2) (k + 4))] w (.int .u64 (numAt s (k + 2) 2 : Int)) := fun w => by
      have := rNumAt8 (s := s) (w := w) (i := k + 2) (j := k + 4) (by omega) (by omega)
      rwa [show k + 4 - (k + 2) = 2 by omega] at this
    have i0 : ∀ W, (Instr.index 9 (.string s) (.int .i64 (k : Int))).run Tryz.prog W = .ok (.int .u8 (numAt s k 1 : Int)) W := fun W => run_at (by omega) _ rfl W
    have i1 : ∀ W, (Instr.index 9 (.string s) (.int .i64 ((k : Int) + 1))).run Tryz.prog W = .ok (.int .u8 (numAt s (k + 1) 1 : Int)) W := fun W => run_at (by omega) _ (by push_cast; rfl) W
    have f4 : ∀ w, Gives Tryz.prog 67 #[.string s, .int .i64 ((k : Int) + 4)] w (.agg (fls [.many (adL (ad4 s (k + 4))) 17]).toArray) := fun w => by
      have := rfour_any (w := w) (s := s) (k := k + 4) (by omega) hs
      rwa [show ((k + 4 : Nat) : Int) = (k : Int) + 4 by push_cast; rfl] at this
    have hb0 : numAt s k 1 < 256 := numAt_lt s k 1
    have hb1 : numAt s (k + 1) 1 < 256 := numAt_lt s (k + 1) 1
    have hm : numAt s (k + 2) 2 < 65536 := numAt_lt s (k + 2) 2
    have SR := srcR (B := w.heap.size) (w0 := w) (s := s) (k := k + 8) hm (by omega) hs
    have hok := rSrcF_ok (s := s) (k := k + 8) (n := numAt s (k + 2) 2)
    unfold endAt okAt recAt at hL
    generalize numAt s k 1 = b0 at *
    generalize numAt s (k + 1) 1 = b1 at *
    generalize numAt s (k + 2) 2 = m at *
    generalize ad4 s (k + 4) = a at *
    have f7 : ∀ w, Gives Tryz.prog 68 #[.agg (fls [.many (adL a) 17]).toArray] w (.bool (grp4 a)) := fun w => rGroup4_any
    have oA := adL_ok a
    obtain ⟨A, hA'⟩ : ∃ Y, Y = adL a := ⟨_, rfl⟩
    rw [← hA'] at f4 f7 oA
    have HA' := Lib.hid hA'
    clear hA'
    generalize grp4 a = gb at *
    obtain ⟨L, c, hLc⟩ : ∃ L c, rSrcF s (k + 8) m = (L, c) := ⟨_, _, rfl⟩
    rw [hLc] at hL SR hok
    simp only at hL SR hok
    have SR := Lib.hid SR
    have HF := Lib.hid hf
    clear hLc h1 hf
    by_cases hc : c = 0
    rotate_left
    · rw [if_pos hc] at hL
      have HE := Lib.hid hL
      have dc : (c != 0) = true := by simpa using hc
      clear hG hXj hL hok
      go_wp2_with (first | ((go_at_call 119; refine SR.out _ _ _ _ _ ?_ ?_ hH ?_; (focus (first | rfl | (push_cast; rfl) | (simp; done))); (focus (first | rfl | (push_cast; rfl) | (simp; done))); (clear hH; intro W sp sc D' hA hD' hH); (try simp only [List.cons_append, List.nil_append, List.append_assoc] at hH); (try simp only [Act.put, List.setIfInBounds_toArray, List.set_cons_succ, List.set_cons_zero]))) | (refine st ?_; clear hH; (first | intro W g hH | intro W hH)))
      go_ret2
      rw [← HE.out]
      refine RecsPost.own (D := D ++ D') rfl rfl hXm hH (own_app HD hD') (in_app HXD)
    have hm64 := (hok hc).1
    have hkm := (hok hc).2.1
    subst hc
    rw [if_neg (by simp)] at hL
    clear hok
    by_cases h2 : s.size < k + 8 + 4 * m + 4 * b1
    · rw [if_pos h2] at hL
      have HE := Lib.hid hL
      have d6 : decide ((s.size : Int) < (k : Int) + 8 + 4 * (m : Int) + 4 * (b1 : Int)) = true := decide_eq_true (by omega)
      have d7 : (s.size : Int) < (k : Int) + 8 + 4 * (m : Int) + 4 * (b1 : Int) := by omega
      clear hG hXj hL h2
      go_wp2_with (first | ((go_at_call 119; refine SR.out _ _ _ _ _ ?_ ?_ hH ?_; (focus (first | rfl | (push_cast; rfl) | (simp; done))); (focus (first | rfl | (push_cast; rfl) | (simp; done))); (clear hH; intro W sp sc D' hA hD' hH); (try simp only [List.cons_append, List.nil_append, List.append_assoc] at hH); (try simp only [Act.put, List.setIfInBounds_toArray, List.set_cons_succ, List.set_cons_zero]))) | (refine st ?_; clear hH; (first | intro W g hH | intro W hH)))
      go_ret2
      rw [← HE.out]
      refine RecsPost.own (D := D ++ D') rfl rfl hXm hH (own_app HD hD') (in_app HXD)
    rw [if_neg h2] at hL
    have d6 : decide ((s.size : Int) < (k : Int) + 8 + 4 * (m : Int) + 4 * (b1 : Int)) = false := decide_eq_false (by omega)
    have d7 : (k : Int) + 8 + 4 * (m : Int) + 4 * (b1 : Int) ≤ (s.size : Int) := by omega
    have hke : k + 8 + 4 * m + 4 * b1 ≤ s.size := by omega
    have HXj := Lib.hid hXj
    clear hXj h2
    have HXm := Lib.hid hXm
    go_wp2_with (first | ((go_at_call 119; refine SR.out _ _ _ _ _ ?_ ?_ hH ?_; (focus (first | rfl | (push_cast; rfl) | (simp; done))); (focus (first | rfl | (push_cast; rfl) | (simp; done))); (clear hH; intro W sp sc D' hA hD' hH); (try simp only [List.cons_append, List.nil_append, List.append_assoc] at hH); (try simp only [Act.put, List.setIfInBounds_toArray, List.set_cons_succ, List.set_cons_zero]))) | (refine st ?_; clear hH; (first | intro W g hH | intro W hH)))
    clear d1 d2 d3 d4 d5 d6 d7
    have dk : 0 ≤ (k : Int) + 4 := by omega
    by_cases h0 : 0 < b0
    rotate_left
    · have e0 : decide ((0 : Int) < (b0 : Int)) = false := decide_eq_false (by omega)
      have hokv := Lib.hid (show false = (decide (0 < b0) && (decide (b0 < 7) && gb)) by rw [decide_eq_false h0, Bool.false_and])
      have HL2 := Lib.hid hL
      obtain rfl : b0 = 0 := by omega
      clear hL h0 e0
      clear i1 n2
      ((with_reducible refine regM hH (SubH.refl) (by kernel_rfl) ?_); (clear hH; intro W hH); refine mtt [0, 1, 2, 3, 4, 5, 6, 8] ?_; refine hm_two (fuel := 3) 7 10 rfl rfl (by kernel_rfl) ?_ ?_; (focus (go_wp2_with (first | (refine st ?_; clear hH; (first | intro W g hH | intro W hH))); refine me ?_; refine mtt [9] ?_; refine mo 10 ?_; go_wp2_with (first | (refine st ?_; clear hH; (first | intro W g hH | intro W hH))); refine me ?_; refine mo 11 ?_; go_wp2_with (first | (refine st ?_; clear hH; (first | intro W g hH | intro W hH))); refine me ?_; refine hm_end (by kernel_rfl) ?_)); rotate_left 1; (focus (go_wp2_with (first | (refine st ?_; clear hH; (first | intro W g hH | intro W hH))); refine me ?_; refine mo 7 ?_; go_wp2_with (first | (refine st ?_; clear hH; (first | intro W g hH | intro W hH))); refine me ?_; refine mtt [9] ?_; refine mo 11 ?_; go_wp2_with (first | (refine st ?_; clear hH; (first | intro W g hH | intro W hH))); refine me ?_; refine hm_end (by kernel_rfl) ?_)))
      all_goals
        go_wp2_with (first | (refine st ?_; clear hH; (first | intro W g hH | intro W hH)))
        have HL3 := Lib.hid (show rRecL s n f' (j + 1) (k + 8 + 4 * m + 4 * b1) (X.map Rv.r) = res by have := HL2.out; rwa [← hokv.out] at this)
        refine ⟨⟨j + 1, k + 8 + 4 * m + 4 * b1, f', X, D ++ D', go, cc, q, J, by simp, by push_cast; rfl, rfl, HL3, by have := HF.out; omega, by omega, hke, by have := HXj.out; omega, own_app HD hD', in_app HXD, hG, oJ, hH.sub (SubH.drop SubH.refl)⟩, by simp [intOf]; omega⟩
    have e0 : decide ((0 : Int) < (b0 : Int)) = true := decide_eq_true (by omega)
    by_cases h7 : b0 < 7
    rotate_left
    · have e7 : decide ((b0 : Int) < 7) = false := decide_eq_false (by omega)
      have hokv := Lib.hid (show false = (decide (0 < b0) && (decide (b0 < 7) && gb)) by rw [decide_eq_false h7, Bool.false_and, Bool.and_false])
      have HL2 := Lib.hid hL
      have e7' : (7 : Int) ≤ (b0 : Int) := by omega
      clear hL
      clear i1 n2
      ((with_reducible refine regM hH (SubH.refl) (by kernel_rfl) ?_); (clear hH; intro W hH); refine mtt [0, 1, 2, 3, 4, 5, 6, 8] ?_; refine hm_two (fuel := 3) 7 10 rfl rfl (by kernel_rfl) ?_ ?_; (focus (go_wp2_with (first | (refine st ?_; clear hH; (first | intro W g hH | intro W hH))); refine me ?_; refine mtt [9] ?_; refine mo 10 ?_; go_wp2_with (first | (refine st ?_; clear hH; (first | intro W g hH | intro W hH))); refine me ?_; refine mo 11 ?_; go_wp2_with (first | (refine st ?_; clear hH; (first | intro W g hH | intro W hH))); refine me ?_; refine hm_end (by kernel_rfl) ?_)); rotate_left 1; (focus (go_wp2_with (first | (refine st ?_; clear hH; (first | intro W g hH | intro W hH))); refine me ?_; refine mo 7 ?_; go_wp2_with (first | (refine st ?_; clear hH; (first | intro W g hH | intro W hH))); refine me ?_; refine mtt [9] ?_; refine mo 11 ?_; go_wp2_with (first | (refine st ?_; clear hH; (first | intro W g hH | intro W hH))); refine me ?_; refine hm_end (by kernel_rfl) ?_)))
      all_goals
        go_wp2_with (first | (refine st ?_; clear hH; (first | intro W g hH | intro W hH)))
        have HL3 := Lib.hid (show rRecL s n f' (j + 1) (k + 8 + 4 * m + 4 * b1) (X.map Rv.r) = res by have := HL2.out; rwa [← hokv.out] at this)
        refine ⟨⟨j + 1, k + 8 + 4 * m + 4 * b1, f', X, D ++ D', go, cc, q, J, by simp, by push_cast; rfl, rfl, HL3, by have := HF.out; omega, by omega, hke, by have := HXj.out; omega, own_app HD hD', in_app HXD, hG, oJ, hH.sub (SubH.drop SubH.refl)⟩, by simp [intOf]; omega⟩
    have e7 : decide ((b0 : Int) < 7) = true := decide_eq_true (by omega)
    cases gb
    · have hokv := Lib.hid (show false = (decide (0 < b0) && (decide (b0 < 7) && false)) by rw [Bool.and_false, Bool.and_false])
      have HL2 := Lib.hid hL
      clear hL
      clear i1 n2
      ((with_reducible refine regM hH (SubH.refl) (by kernel_rfl) ?_); (clear hH; intro W hH); refine mtt [0, 1, 2, 3, 4, 5, 6, 8] ?_; refine hm_two (fuel := 3) 7 10 rfl rfl (by kernel_rfl) ?_ ?_; (focus (go_wp2_with (first | (refine st ?_; clear hH; (first | intro W g hH | intro W hH))); refine me ?_; refine mtt [9] ?_; refine mo 10 ?_; go_wp2_with (first | (refine st ?_; clear hH; (first | intro W g hH | intro W hH))); refine me ?_; refine mo 11 ?_; go_wp2_with (first | (refine st ?_; clear hH; (first | intro W g hH | intro W hH))); refine me ?_; refine hm_end (by kernel_rfl) ?_)); rotate_left 1; (focus (go_wp2_with (first | (refine st ?_; clear hH; (first | intro W g hH | intro W hH))); refine me ?_; refine mo 7 ?_; go_wp2_with (first | (refine st ?_; clear hH; (first | intro W g hH | intro W hH))); refine me ?_; refine mtt [9] ?_; refine mo 11 ?_; go_wp2_with (first | (refine st ?_; clear hH; (first | intro W g hH | intro W hH))); refine me ?_; refine hm_end (by kernel_rfl) ?_)))
      all_goals
        go_wp2_with (first | (refine st ?_; clear hH; (first | intro W g hH | intro W hH)))
        have HL3 := Lib.hid (show rRecL s n f' (j + 1) (k + 8 + 4 * m + 4 * b1) (X.map Rv.r) = res by have := HL2.out; rwa [← hokv.out] at this)
        refine ⟨⟨j + 1, k + 8 + 4 * m + 4 * b1, f', X, D ++ D', go, cc, q, J, by simp, by push_cast; rfl, rfl, HL3, by have := HF.out; omega, by omega, hke, by have := HXj.out; omega, own_app HD hD', in_app HXD, hG, oJ, hH.sub (SubH.drop SubH.refl)⟩, by simp [intOf]; omega⟩
    · have hokv := Lib.hid (show true = (decide (0 < b0) && (decide (b0 < 7) && true)) by rw [decide_eq_true h0, decide_eq_true h7]; rfl)
      have HL2 := Lib.hid hL
      clear hL
      clear i1 n2
      ((with_reducible refine regM hH (SubH.refl) (by kernel_rfl) ?_); (clear hH; intro W hH); refine mtt [0, 1, 2, 3, 4, 5, 6, 8] ?_; refine hm_two (fuel := 3) 7 10 rfl rfl (by kernel_rfl) ?_ ?_; (focus (go_wp2_with (first | (refine st ?_; clear hH; (first | intro W g hH | intro W hH))); refine me ?_; refine mtt [9] ?_; refine mo 10 ?_; go_wp2_with (first | (refine st ?_; clear hH; (first | intro W g hH | intro W hH))); refine me ?_; refine mo 11 ?_; go_wp2_with (first | (refine st ?_; clear hH; (first | intro W g hH | intro W hH))); refine me ?_; refine hm_end (by kernel_rfl) ?_)); rotate_left 1; (focus (go_wp2_with (first | (refine st ?_; clear hH; (first | intro W g hH | intro W hH))); refine me ?_; refine mo 7 ?_; go_wp2_with (first | (refine st ?_; clear hH; (first | intro W g hH | intro W hH))); refine me ?_; refine mtt [9] ?_; refine mo 11 ?_; go_wp2_with (first | (refine st ?_; clear hH; (first | intro W g hH | intro W hH))); refine me ?_; refine hm_end (by kernel_rfl) ?_)))
      all_goals
        go_wp2_with (first | (((first | (refine hApp 2 0 tab_ok tabs_ok rfl rfl rfl rfl rfl rfl rfl hH rfl rfl rfl rfl ?_; refine ⟨?_, ?_, ?_⟩; (focus assumption); (focus (first | omega | (simp; omega))))); clear hH; intro W g c p q J hG hL hJ hH; (try simp only [putH, fls, List.append_nil] at hH hL); (try simp only [Act.put, pA, pB, pC]))) | (refine st ?_; clear hH; (first | intro W g hH | intro W hH)))
        have HL3 := Lib.hid (show rRecL s n f' (j + 1) (k + 8 + 4 * m + 4 * b1) (X.map Rv.r ++ [⟨b0, a, L⟩]) = res by have := HL2.out; rwa [← hokv.out] at this)
        have hp := hG.hp
        have hq := hG.hq
        have hle := hG.le
        have hmo := hG.most
        have e1 : (X ++ [(⟨⟨b0, a, L⟩, sp, sc⟩ : Rv)]).length = X.length + 1 := by simp
        refine ⟨⟨j + 1, k + 8 + 4 * m + 4 * b1, f', X ++ [⟨⟨b0, a, L⟩, sp, sc⟩], D ++ D', g, c, q, J, by simp, by push_cast; rfl, by simp, Lib.hid (by rw [List.map_append]; exact HL3.out), by have := HF.out; omega, by omega, hke, by have := HXj.out; simp; omega, own_app HD hD', in_snoc HXD hA, by rw [e1]; exact ⟨rfl, by rw [← hq, hp], hle, hmo⟩, hJ, ?_⟩, by simp [intOf]; omega⟩
        rw [show (X ++ [(⟨⟨b0, a, L⟩, sp, sc⟩ : Rv)]).length * 19 = p by rw [hp, e1], show rvsL (X ++ [(⟨⟨b0, a, L⟩, sp, sc⟩ : Rv)]) = rvsL X ++ (.int .i64 b0 :: (A ++ [.slice sp L.length sc])) by rw [rvsL_snoc, HA'.out]; rfl]
        exact hH.sub (SubH.drop (SubH.drop SubH.refl))
end
end Go.Proofs.YtdnehjhijmeihaaGreat
namespace Go.Proofs.YtdnehjhijmeihaaGreat
section
open Go.ChangeShapes Go.WideShapes Go.ChangeAt Go.RowKit
set_option linter.unusedVariables false
set_option linter.unusedSimpArgs false
set_option maxRecDepth 20000
attribute [local irreducible] wpList

noncomputable def rQryF (s : ByteArray) : Tk × Int :=
  if 8 < s.size ∧ s.size < 12 then (⟨false, 2, 1, (numAt s 1 1 : Int), ad4 s 4, false, 0, 0, [], []⟩, 2)
  else if (ad4 s 4 == Ad.z || grp4 (ad4 s 4)) = false then (⟨false, 2, 1, (numAt s 1 1 : Int), ad4 s 4, false, 0, 0, [], []⟩, 2)
  else if s.size = 8 then
    if numAt s 1 1 = 0 then (⟨false, 1, 1, (numAt s 1 1 : Int), ad4 s 4, false, 0, 0, [], []⟩, if (ad4 s 4 == Ad.z) = true then 0 else 2)
    else (⟨false, 2, 1, (numAt s 1 1 : Int), ad4 s 4, false, 0, 0, [], []⟩, 0)
  else if (ad4 s 4 == Ad.z) = true ∧ 0 < numAt s 10 2 then (⟨false, 3, 1, (valN 16 (numAt s 1 1) : Int), ad4 s 4, decide (numAt s 8 1 / 8 % 2 = 1), ((numAt s 8 1 % 8 : Nat) : Int), (valN 16 (numAt s 9 1) : Int), [], []⟩, 2)
  else (⟨false, 3, 1, (valN 16 (numAt s 1 1) : Int), ad4 s 4, decide (numAt s 8 1 / 8 % 2 = 1), ((numAt s 8 1 % 8 : Nat) : Int), (valN 16 (numAt s 9 1) : Int), (rSrcF s 12 (numAt s 10 2)).1, []⟩, (rSrcF s 12 (numAt s 10 2)).2)
theorem q8 (b : Nat) : decide (b / 8 % 2 = 1) = (((b : Int) / 8 % 2) == 1) := by
  rw [Bool.eq_iff_iff]
  simp
  omega
theorem m8 (b : Nat) : ((b % 8 : Nat) : Int) = (b : Int) % 8 := by omega
end
section
set_option linter.unusedVariables false
set_option linter.unusedSimpArgs false

theorem ne_false {b : Bool} (h : ¬ b = false) : b = true := by
  cases b
  · exact absurd rfl h
  · rfl
section
variable {s : ByteArray} {k n : Nat} {e : Int} {t : St}
theorem fits_ok (h : k + n ≤ s.size) : rdFits s k false n = true := by simp [rdFits, h]
theorem fits_no (h : s.size < k + n) : rdFits s k false n = false := by simp [rdFits]; omega
theorem stepS_ok (h : k + n ≤ s.size) : stepS s n ⟨k, false, e⟩ = ⟨k + n, false, e⟩ := by
  unfold stepS rdB rdK
  simp only [fits_ok h]
  simp [failS]
theorem stepS_no (h : s.size < k + n) : stepS s n ⟨k, false, 0⟩ = ⟨k, true, 3⟩ := by
  unfold stepS rdB rdK
  simp only [fits_no h]
  simp [failS]
theorem failS_bad {is : Bool} {c : Int} (h : t.e ≠ 0) : failS is c t = t := by
  unfold failS
  rw [if_neg (by simp [h])]
theorem stepS_bad (h : t.e ≠ 0) : (stepS s n t).e = t.e := by
  unfold stepS
  rw [failS_bad (by exact h)]
theorem numV_ok (h : k + n ≤ s.size) : numV s n ⟨k, false, e⟩ = numAt s k n := by
  unfold numV rdS numAt
  simp only [fits_ok h, if_true]
  rw [toList_extract, Nat.add_sub_cancel_left]
theorem addrS_ok (h : k + 4 ≤ s.size) : addrS s 4 ⟨k, false, e⟩ = ad4 s k := by
  unfold addrS ad4 rdS
  simp only [fits_ok h, if_true]
theorem srcAt_zero : srcAt s k 0 = [] := rfl
theorem srcAt_succ : srcAt s k (n + 1) = ad4 s k :: srcAt s (k + 4) n := by
  unfold srcAt
  rw [List.range_succ_eq_map, List.map_cons, List.map_map]
  have h : List.map ((fun i => ad4 s (k + 4 * i)) ∘ Nat.succ) (List.range n) = List.map (fun i => ad4 s (k + 4 + 4 * i)) (List.range n) := List.map_congr_left fun i _ => by
    rw [Function.comp_apply, show k + 4 * Nat.succ i = k + 4 + 4 * i by omega]
  rw [h, Nat.mul_zero, Nat.add_zero]
theorem srcL_bad {f : Nat} {X : List Ad} (h : t.e ≠ 0) : srcL s n f X t = (X, t) := srcL_end fun h' => h h'.2
theorem srcF_bad (h : t.e ≠ 0) : srcF s n t = ([], t) := by
  unfold srcF
  rw [failS_bad h, srcL_bad h]
theorem srcL_run : ∀ {m f : Nat} {X : List Ad} {k : Nat}, m ≤ f → X.length + m = n → k + 4 * m ≤ s.size → srcL s n f X ⟨k, false, 0⟩ = (X ++ srcAt s k m, ⟨k + 4 * m, false, 0⟩)
  | 0, f, X, k, _, hX, _ => by
    rw [srcL_end (fun h => by have := h.1; omega), srcAt_zero, List.append_nil]
    rfl
  | m + 1, 0, _, _, h, _, _ => by omega
  | m + 1, f + 1, X, k, hf, hX, hk => by
    rw [srcL_more ⟨by omega, rfl⟩, addrS_ok (by omega), stepS_ok (by omega), srcL_run (m := m) (by omega) (by simp; omega) (by omega), srcAt_succ]
    simp only [List.append_assoc, List.singleton_append, Prod.mk.injEq, St.mk.injEq, true_and, and_true]
    omega
theorem srcL_short : ∀ {m f : Nat} {X : List Ad} {k : Nat}, m ≤ f → X.length + m = n → k ≤ s.size → s.size < k + 4 * m → (srcL s n f X ⟨k, false, 0⟩).2.e = 3
  | 0, f, X, k, _, hX, _, h => by omega
  | m + 1, 0, _, _, h, _, _, _ => by omega
  | m + 1, f + 1, X, k, hf, hX, hk, h => by
    rw [srcL_more ⟨by omega, rfl⟩]
    by_cases h4 : k + 4 ≤ s.size
    · rw [stepS_ok h4]
      exact srcL_short (m := m) (by omega) (by simp; omega) h4 (by omega)
    · rw [stepS_no (by omega), srcL_bad (by simp)]
theorem srcF_is (hk : k ≤ s.size) : (srcF s n ⟨k, false, 0⟩).2.e = (rSrcF s k n).2 ∧ ((rSrcF s k n).2 = 0 → srcF s n ⟨k, false, 0⟩ = ((rSrcF s k n).1, ⟨k + 4 * n, false, 0⟩)) := by
  unfold srcF rSrcF
  by_cases h64 : 64 < n
  · have e : failS (decide (64 < n)) 6 (⟨k, false, 0⟩ : St) = ⟨k, false, 6⟩ := by simp [failS, h64]
    rw [e, srcL_bad (by simp), if_pos h64]
    exact ⟨rfl, fun h => by simp at h⟩
  · have e : failS (decide (64 < n)) 6 (⟨k, false, 0⟩ : St) = ⟨k, false, 0⟩ := by simp [failS, h64]
    rw [e, if_neg h64]
    by_cases hz : s.size < k + 4 * n
    · rw [if_pos hz]
      exact ⟨srcL_short (m := n) (by omega) (by simp) hk hz, fun h => by simp at h⟩
    · rw [if_neg hz, srcL_run (m := n) (by omega) (by simp) (by omega)]
      exact ⟨rfl, fun _ => by simp⟩
/-- ahead of the sources all that is wrong is noted already -/
theorem recF_bad (h : (stepS s 4 (stepS s 2 (stepS s 1 (stepS s 1 t)))).e ≠ 0) : (recF s t).2.2.e = (stepS s 4 (stepS s 2 (stepS s 1 (stepS s 1 t)))).e := by
  unfold recF
  simp only
  rw [srcF_bad h, if_neg h]
theorem recF_short (hk : k ≤ s.size) (h : s.size < k + 8) : (recF s ⟨k, false, 0⟩).2.2.e = 3 := by
  have h3 : (stepS s 4 (stepS s 2 (stepS s 1 (stepS s 1 ⟨k, false, 0⟩)))).e = 3 := by
    by_cases h1 : k + 1 ≤ s.size
    · rw [stepS_ok h1]
      by_cases h2 : k + 2 ≤ s.size
      · rw [stepS_ok (by omega)]
        by_cases h4 : k + 4 ≤ s.size
        · rw [stepS_ok (by omega), stepS_no (by omega)]
        · rw [stepS_no (by omega), stepS_bad (by simp)]
      · rw [stepS_no (by omega), stepS_bad (by rw [stepS_bad (by simp)]; simp), stepS_bad (by simp)]
    · have e1 : (stepS s 1 ⟨k, false, 0⟩).e = 3 := by rw [stepS_no (by omega)]
      have e2 : (stepS s 1 (stepS s 1 ⟨k, false, 0⟩)).e = 3 := by rw [stepS_bad (by rw [e1]; simp), e1]
      have e3 : (stepS s 2 (stepS s 1 (stepS s 1 ⟨k, false, 0⟩))).e = 3 := by rw [stepS_bad (by rw [e2]; simp), e2]
      rw [stepS_bad (by rw [e3]; simp), e3]
  rw [recF_bad (by rw [h3]; simp), h3]
theorem recF_is (h : k + 8 ≤ s.size) : recF s ⟨k, false, 0⟩ = (⟨numAt s k 1, ad4 s (k + 4), (srcF s (numAt s (k + 2) 2) ⟨k + 8, false, 0⟩).1⟩, decide (1 ≤ numAt s k 1) && (decide (numAt s k 1 ≤ 6) && grp4 (ad4 s (k + 4))), if (srcF s (numAt s (k + 2) 2) ⟨k + 8, false, 0⟩).2.e = 0 then stepS s (numAt s (k + 1) 1 * 4) (srcF s (numAt s (k + 2) 2) ⟨k + 8, false, 0⟩).2 else (srcF s (numAt s (k + 2) 2) ⟨k + 8, false, 0⟩).2) := by
  have e1 : stepS s 1 ⟨k, false, 0⟩ = ⟨k + 1, false, 0⟩ := stepS_ok (by omega)
  have e2 : stepS s 1 ⟨k + 1, false, 0⟩ = ⟨k + 2, false, 0⟩ := stepS_ok (by omega)
  have e3 : stepS s 2 ⟨k + 2, false, 0⟩ = ⟨k + 4, false, 0⟩ := stepS_ok (by omega)
  have e4 : stepS s 4 ⟨k + 4, false, 0⟩ = ⟨k + 8, false, 0⟩ := stepS_ok (by omega)
  unfold recF
  simp only [e1, e2, e3, e4]
  rw [numV_ok (by omega), numV_ok (by omega), numV_ok (by omega), addrS_ok (by omega)]
theorem okAt_is : (decide (1 ≤ numAt s k 1) && (decide (numAt s k 1 ≤ 6) && grp4 (ad4 s (k + 4)))) = okAt s k := by
  unfold okAt
  rw [show decide (1 ≤ numAt s k 1) = decide (0 < numAt s k 1) from decide_eq_decide.2 (by omega), show decide (numAt s k 1 ≤ 6) = decide (numAt s k 1 < 7) from decide_eq_decide.2 (by omega)]
theorem repL_bad {f i : Nat} {X : List Rc} (h : t.e ≠ 0) : repL s n f i X t = (X, t) := repL_end fun h' => h h'.2
theorem repL_is : ∀ {f i k : Nat} {X : List Rc}, k ≤ s.size → (repL s n f i X ⟨k, false, 0⟩).2.e = (rRecL s n f i k X).2 ∧ ((rRecL s n f i k X).2 = 0 → (repL s n f i X ⟨k, false, 0⟩).1 = (rRecL s n f i k X).1)
  | 0, i, k, X, _ => ⟨rfl, fun _ => rfl⟩
  | f + 1, i, k, X, hk => by
    by_cases hi : i < n
    rotate_left
    · rw [repL_end (fun h => hi h.1), rRecL_end hi]
      exact ⟨rfl, fun _ => rfl⟩
    rw [repL_more ⟨hi, rfl⟩, rRecL, if_pos hi]
    by_cases h8 : s.size < k + 8
    · rw [if_pos h8]
      have h3 := recF_short hk h8
      rw [repL_bad (by rw [h3]; simp)]
      exact ⟨h3, fun h => by simp at h⟩
    rw [if_neg h8]
    have hr := recF_is (s := s) (k := k) (by omega)
    obtain ⟨q1, q2⟩ := srcF_is (s := s) (n := numAt s (k + 2) 2) (k := k + 8) (by omega)
    by_cases hc : (rSrcF s (k + 8) (numAt s (k + 2) 2)).2 = 0
    rotate_left
    · rw [if_pos hc]
      have he : (srcF s (numAt s (k + 2) 2) ⟨k + 8, false, 0⟩).2.e ≠ 0 := by rw [q1]; exact hc
      rw [if_neg he] at hr
      have h3 : (recF s ⟨k, false, 0⟩).2.2.e = (rSrcF s (k + 8) (numAt s (k + 2) 2)).2 := by rw [hr]; exact q1
      rw [repL_bad (by rw [h3]; exact hc)]
      exact ⟨h3, fun h => absurd h hc⟩
    rw [if_neg (show ¬ (rSrcF s (k + 8) (numAt s (k + 2) 2)).2 ≠ 0 from fun h => h hc)]
    have he : (srcF s (numAt s (k + 2) 2) ⟨k + 8, false, 0⟩).2.e = 0 := by rw [q1]; exact hc
    rw [if_pos he, q2 hc, okAt_is] at hr
    simp only at hr
    by_cases h2 : s.size < endAt s k
    · rw [if_pos h2]
      unfold endAt at h2
      rw [stepS_no (by omega)] at hr
      have h3 : (recF s ⟨k, false, 0⟩).2.2.e = 3 := by rw [hr]
      rw [repL_bad (by rw [h3]; simp)]
      exact ⟨h3, fun h => by simp at h⟩
    rw [if_neg h2]
    have h2' := h2
    unfold endAt at h2'
    rw [stepS_ok (by omega)] at hr
    rw [hr]
    simp only
    have e1 : k + 8 + 4 * numAt s (k + 2) 2 + numAt s (k + 1) 1 * 4 = endAt s k := by unfold endAt; omega
    have e2 : (⟨numAt s k 1, ad4 s (k + 4), (rSrcF s (k + 8) (numAt s (k + 2) 2)).1⟩ : Rc) = recAt s k := rfl
    rw [e1, e2]
    exact repL_is (f := f) (by omega)
/-- what the reference reads -/
noncomputable def rReadT (s : ByteArray) : Tk × Int :=
  if numAt s 0 1 = 17 then rQryF s
  else if numAt s 0 1 = 34 then (⟨false, 3, 2, 0, Ad.z, false, 0, 0, [], (rRecF s).1⟩, (rRecF s).2)
  else if numAt s 0 1 = 18 ∨ numAt s 0 1 = 22 ∨ numAt s 0 1 = 23 then (⟨false, if numAt s 0 1 = 18 then 1 else 2, if numAt s 0 1 = 23 then 3 else 2, 0, ad4 s 4, false, 0, 0, [], []⟩, if grp4 (ad4 s 4) then 0 else 2)
  else (Tk.z, 5)
noncomputable def rReadF (s : ByteArray) : Tk × Int :=
  if s.size < 8 then (Tk.z, 3) else if sumOk s = false then (Tk.z, 4) else if (rReadT s).2 = 0 then ((rReadT s).1, 0) else (Tk.z, (rReadT s).2)
theorem st3_is (h : 8 ≤ s.size) : st3 s = ⟨4, false, 0⟩ := by
  unfold st3 st0
  rw [stepS_ok (by omega), stepS_ok (by omega), stepS_ok (by omega)]
theorem kindF_is (h : 8 ≤ s.size) : kindF s = numAt s 0 1 := numV_ok (by omega)
theorem secF_is (h : 8 ≤ s.size) : secF s = numAt s 1 1 := by
  unfold secF st0
  rw [stepS_ok (by omega), numV_ok (by omega)]
theorem repF_is (h : 8 ≤ s.size) : (repF s ⟨4, false, 0⟩).2.e = (rRecF s).2 ∧ ((rRecF s).2 = 0 → (repF s ⟨4, false, 0⟩).1 = (rRecF s).1) := by
  unfold repF rRecF
  rw [stepS_ok (by omega), stepS_ok (by omega), numV_ok (by omega)]
  by_cases h64 : 64 < numAt s 6 2
  · have e : failS (decide (64 < numAt s 6 2)) 6 (⟨4 + 2 + 2, false, 0⟩ : St) = ⟨8, false, 6⟩ := by simp [failS, h64]
    rw [e, if_pos h64, repL_bad (by simp)]
    exact ⟨rfl, fun h => by simp at h⟩
  · have e : failS (decide (64 < numAt s 6 2)) 6 (⟨4 + 2 + 2, false, 0⟩ : St) = ⟨8, false, 0⟩ := by simp [failS, h64]
    rw [e, if_neg h64]
    exact repL_is (by omega)
theorem qryF_bad {c : Nat} (h : (failS (!(addrS s 4 t == Ad.z || grp4 (addrS s 4 t))) 2 (stepS s 4 t)).e ≠ 0) : (qryF s t c).2.e = (failS (!(addrS s 4 t == Ad.z || grp4 (addrS s 4 t))) 2 (stepS s 4 t)).e := by
  unfold qryF
  simp only
  generalize failS (!(addrS s 4 t == Ad.z || grp4 (addrS s 4 t))) 2 (stepS s 4 t) = t2 at *
  split
  · split
    · rw [failS_bad h]
    · rfl
  · have e1 : (stepS s 1 t2).e = t2.e := stepS_bad h
    have e2 : (stepS s 1 (stepS s 1 t2)).e = t2.e := by rw [stepS_bad (by rw [e1]; exact h), e1]
    have e3 : (stepS s 2 (stepS s 1 (stepS s 1 t2))).e = t2.e := by rw [stepS_bad (by rw [e2]; exact h), e2]
    rw [failS_bad (by rw [e3]; exact h), srcF_bad (by rw [e3]; exact h), e3]
theorem qryF_is (h : 8 ≤ s.size) : (qryF s (failS (decide (8 < s.size) && decide (s.size < 12)) 2 ⟨4, false, 0⟩) (numAt s 1 1)).2.e = (rQryF s).2 ∧ ((rQryF s).2 = 0 → (qryF s (failS (decide (8 < s.size) && decide (s.size < 12)) 2 ⟨4, false, 0⟩) (numAt s 1 1)).1 = (rQryF s).1) := by
  by_cases h12 : 8 < s.size ∧ s.size < 12
  · have e : failS (decide (8 < s.size) && decide (s.size < 12)) 2 (⟨4, false, 0⟩ : St) = ⟨4, false, 2⟩ := by simp [failS, h12]
    have e2 : rQryF s = (⟨false, 2, 1, (numAt s 1 1 : Int), ad4 s 4, false, 0, 0, [], []⟩, 2) := by unfold rQryF; rw [if_pos h12]
    rw [e, e2]
    have e3 : ∀ b, failS b 2 (stepS s 4 ⟨4, false, 2⟩) = ⟨8, false, 2⟩ := fun b => by rw [stepS_ok (by omega), failS_bad (by simp)]
    rw [qryF_bad (by rw [e3]; simp), e3]
    exact ⟨rfl, fun h => by simp at h⟩
  have e : failS (decide (8 < s.size) && decide (s.size < 12)) 2 (⟨4, false, 0⟩ : St) = ⟨4, false, 0⟩ := by
    have : (decide (8 < s.size) && decide (s.size < 12)) = false := by simpa using h12
    rw [this]; rfl
  rw [e]
  have ea : addrS s 4 ⟨4, false, 0⟩ = ad4 s 4 := addrS_ok (by omega)
  have e1 : stepS s 4 ⟨4, false, 0⟩ = ⟨8, false, 0⟩ := stepS_ok (by omega)
  by_cases hq : (ad4 s 4 == Ad.z || grp4 (ad4 s 4)) = false
  · have e2 : rQryF s = (⟨false, 2, 1, (numAt s 1 1 : Int), ad4 s 4, false, 0, 0, [], []⟩, 2) := by unfold rQryF; rw [if_neg h12, if_pos hq]
    have e3 : failS (!(addrS s 4 ⟨4, false, 0⟩ == Ad.z || grp4 (addrS s 4 ⟨4, false, 0⟩))) 2 (stepS s 4 ⟨4, false, 0⟩) = ⟨8, false, 2⟩ := by rw [ea, e1, hq]; rfl
    rw [e2, qryF_bad (by rw [e3]; simp), e3]
    exact ⟨rfl, fun h => by simp at h⟩
  have e3 : failS (!(ad4 s 4 == Ad.z || grp4 (ad4 s 4))) 2 ⟨8, false, 0⟩ = ⟨8, false, 0⟩ := by
    have : (ad4 s 4 == Ad.z || grp4 (ad4 s 4)) = true := ne_false hq
    rw [this]; rfl
  unfold qryF rQryF
  simp only [ea, e1, e3]
  rw [if_neg h12, if_neg hq]
  by_cases h8 : s.size = 8
  · rw [if_pos (by omega), if_pos h8]
    by_cases hc : numAt s 1 1 = 0
    · rw [if_pos hc, if_pos hc]
      refine ⟨?_, fun _ => rfl⟩
      by_cases hz : (ad4 s 4 == Ad.z) = true
      · rw [if_pos hz, hz]; rfl
      · have : (ad4 s 4 == Ad.z) = false := by simpa using hz
        rw [if_neg hz, this]; rfl
    · rw [if_neg hc, if_neg hc]
      exact ⟨rfl, fun _ => rfl⟩
  rw [if_neg (by omega), if_neg h8]
  have f1 : stepS s 1 ⟨8, false, 0⟩ = ⟨9, false, 0⟩ := stepS_ok (by omega)
  have f2 : stepS s 1 ⟨9, false, 0⟩ = ⟨10, false, 0⟩ := stepS_ok (by omega)
  have f3 : stepS s 2 ⟨10, false, 0⟩ = ⟨12, false, 0⟩ := stepS_ok (by omega)
  have n1 : numV s 1 ⟨8, false, 0⟩ = numAt s 8 1 := numV_ok (by omega)
  have n2 : numV s 1 ⟨9, false, 0⟩ = numAt s 9 1 := numV_ok (by omega)
  have n3 : numV s 2 ⟨10, false, 0⟩ = numAt s 10 2 := numV_ok (by omega)
  simp only [f1, f2, f3, n1, n2, n3]
  by_cases hz : (ad4 s 4 == Ad.z) = true ∧ 0 < numAt s 10 2
  · rw [if_pos hz]
    have e4 : failS (ad4 s 4 == Ad.z && decide (0 < numAt s 10 2)) 2 (⟨12, false, 0⟩ : St) = ⟨12, false, 2⟩ := by rw [hz.1, decide_eq_true hz.2]; rfl
    rw [e4, srcF_bad (by simp)]
    exact ⟨rfl, fun h => by simp at h⟩
  · rw [if_neg hz]
    have e4 : failS (ad4 s 4 == Ad.z && decide (0 < numAt s 10 2)) 2 (⟨12, false, 0⟩ : St) = ⟨12, false, 0⟩ := by
      have : (ad4 s 4 == Ad.z && decide (0 < numAt s 10 2)) = false := by
        rw [Bool.and_eq_false_iff]
        by_cases h0 : (ad4 s 4 == Ad.z) = true
        · exact .inr (decide_eq_false fun h => hz ⟨h0, h⟩)
        · exact .inl (by simpa using h0)
      rw [this]; rfl
    rw [e4]
    obtain ⟨q1, q2⟩ := srcF_is (s := s) (n := numAt s 10 2) (k := 12) (by omega)
    exact ⟨q1, fun h => by rw [q2 h]⟩
theorem readT_is (h : 8 ≤ s.size) : (readT s).2.e = (rReadT s).2 ∧ ((rReadT s).2 = 0 → (readT s).1 = (rReadT s).1) := by
  unfold readT rReadT ver1F kind1F
  rw [kindF_is h, secF_is h, st3_is h]
  by_cases h17 : numAt s 0 1 = 17
  · rw [if_pos h17, if_pos h17]
    exact qryF_is h
  rw [if_neg h17, if_neg h17]
  by_cases h34 : numAt s 0 1 = 34
  · rw [if_pos h34, if_pos h34]
    obtain ⟨q1, q2⟩ := repF_is h
    exact ⟨q1, fun h => by rw [show (repF s ⟨4, false, 0⟩).1 = (rRecF s).1 from q2 h]⟩
  rw [if_neg h34, if_neg h34]
  by_cases h3 : numAt s 0 1 = 18 ∨ numAt s 0 1 = 22 ∨ numAt s 0 1 = 23
  · rw [if_pos h3, if_pos h3, addrS_ok (by omega), stepS_ok (by omega)]
    refine ⟨?_, fun _ => rfl⟩
    cases grp4 (ad4 s 4) <;> rfl
  · rw [if_neg h3, if_neg h3]
    exact ⟨rfl, fun _ => rfl⟩
theorem readF_is : readF s = rReadF s := by
  unfold readF rReadF
  by_cases h8 : s.size < 8
  · rw [if_pos h8, if_pos h8]
  rw [if_neg h8, if_neg h8]
  obtain ⟨q1, q2⟩ := readT_is (s := s) (by omega)
  rw [q1]
  by_cases h0 : (rReadT s).2 = 0
  · rw [if_pos h0, if_pos h0, q2 h0]
  · rw [if_neg h0, if_neg h0]
/-! ### what is read is good -/
theorem ad4_src (h : k + 4 ≤ s.size) : src4 (ad4 s k) = true := by
  have hx : (s.extract k (k + 4)).size = 4 := by rw [extract_size h (by omega)]; omega
  have hl := size_toList (s.extract k (k + 4))
  rw [hx] at hl
  have e : (adOf (s.extract k (k + 4))).drop 4 = List.replicate 12 0 := by
    unfold adOf
    rw [hx, List.drop_append, List.drop_of_length_le (by omega), hl]
    rfl
  unfold src4 ad4 adR
  rw [dif_pos hx]
  show (!false && (false || (adOf (s.extract k (k + 4))).drop 4 == List.replicate 12 0)) = true
  rw [e]
  rfl
theorem srcAt_good (h : k + 4 * n ≤ s.size) (hn : n ≤ 64) : srcs4 (srcAt s k n) = true := by
  unfold srcs4
  rw [srcAt_len, decide_eq_true (show n < 65 by omega), Bool.and_true, List.all_eq_true]
  intro a ha
  obtain ⟨i, hi, rfl⟩ := List.mem_map.1 ha
  have := List.mem_range.1 hi
  exact ad4_src (by omega)
theorem rSrcF_good (h : (rSrcF s k n).2 = 0) : srcs4 (rSrcF s k n).1 = true ∧ (rSrcF s k n).1.length = n := by
  obtain ⟨h1, h2, h3⟩ := rSrcF_ok h
  rw [h3]
  exact ⟨srcAt_good h2 h1, srcAt_len _ _ _⟩
theorem rRecL_good : ∀ {f i k : Nat} {X : List Rc}, X.all rcOk4 = true → 8 + recN 8 4 X ≤ k → X.length ≤ i → i ≤ n → k ≤ s.size → n ≤ 64 → (rRecL s n f i k X).2 = 0 → (rRecL s n f i k X).1.all rcOk4 = true ∧ 8 + recN 8 4 (rRecL s n f i k X).1 ≤ s.size ∧ (rRecL s n f i k X).1.length ≤ n
  | 0, i, k, X, h1, h2, h3, h4, h5, h6, _ => ⟨h1, show 8 + recN 8 4 X ≤ s.size by omega, show X.length ≤ n by omega⟩
  | f + 1, i, k, X, h1, h2, h3, h4, h5, h6, h => by
    by_cases hi : i < n
    rotate_left
    · rw [rRecL_end hi]
      exact ⟨h1, show 8 + recN 8 4 X ≤ s.size by omega, show X.length ≤ n by omega⟩
    rw [rRecL, if_pos hi] at h ⊢
    by_cases h8 : s.size < k + 8
    · rw [if_pos h8] at h; simp at h
    rw [if_neg h8] at h ⊢
    by_cases hc : (rSrcF s (k + 8) (numAt s (k + 2) 2)).2 = 0
    rotate_left
    · rw [if_pos hc] at h; exact absurd h hc
    rw [if_neg (show ¬ (rSrcF s (k + 8) (numAt s (k + 2) 2)).2 ≠ 0 from fun h => h hc)] at h ⊢
    by_cases he : s.size < endAt s k
    · rw [if_pos he] at h; simp at h
    rw [if_neg he] at h ⊢
    have he' := he
    unfold endAt at he'
    obtain ⟨g1, g2⟩ := rSrcF_good hc
    by_cases ho : okAt s k = true
    · rw [if_pos ho] at h ⊢
      refine rRecL_good (f := f) ?_ ?_ (by simp; omega) hi (by omega) h6 h
      · rw [List.all_append, h1, Bool.true_and, List.all_cons, List.all_nil, Bool.and_true]
        unfold okAt at ho
        simp only [Bool.and_eq_true, decide_eq_true_eq] at ho
        unfold rcOk4 recAt
        simp only
        rw [decide_eq_true (show (1 : Int) ≤ (numAt s k 1 : Int) by omega), decide_eq_true (show (numAt s k 1 : Int) ≤ 6 by omega), ho.2.2, g1]
        rfl
      · rw [recN_app]
        have : recN 8 4 [recAt s k] = 8 + 4 * numAt s (k + 2) 2 := by simp [recN, recAt, g2]
        rw [this]
        unfold endAt
        omega
    · rw [if_neg ho] at h ⊢
      exact rRecL_good (f := f) h1 (by unfold endAt; omega) (by omega) hi (by omega) h6 h
theorem ex8_val {c : Nat} (hc : c < 256) : ex8 (valN 16 c : Int) = true := by
  have h1 : IsCode 16 ((valN 16 c : Int)).toNat c := by rw [Int.toNat_natCast]; exact IsCode.self (by omega) (by omega)
  have h2 := IsCode.unique (by omega) (cod8_is (valN 16 c : Int)) h1
  unfold ex8
  rw [h2]
  simp
end
section
variable {s : ByteArray}
theorem rReadT_good (h8 : 8 ≤ s.size) (hs : s.size ≤ 1400) (h : (rReadT s).2 = 0) : good4 (rReadT s).1 = true := by
  have hc1 : numAt s 1 1 < 256 := numAt_lt s 1 1
  have hc9 : numAt s 9 1 < 256 := numAt_lt s 9 1
  unfold rReadT at h ⊢
  by_cases h17 : numAt s 0 1 = 17
  · rw [if_pos h17] at h ⊢
    unfold rQryF at h ⊢
    by_cases h12 : 8 < s.size ∧ s.size < 12
    · rw [if_pos h12] at h; simp at h
    rw [if_neg h12] at h ⊢
    by_cases hq : (ad4 s 4 == Ad.z || grp4 (ad4 s 4)) = false
    · rw [if_pos hq] at h; simp at h
    rw [if_neg hq] at h ⊢
    have hq' : (ad4 s 4 != Ad.z && !grp4 (ad4 s 4)) = false := by
      have : (ad4 s 4 == Ad.z || grp4 (ad4 s 4)) = true := ne_false hq
      have e : (ad4 s 4 != Ad.z) = !(ad4 s 4 == Ad.z) := rfl
      rw [e]
      cases hx : (ad4 s 4 == Ad.z) <;> rw [hx] at this <;> simp_all
    by_cases e8 : s.size = 8
    · rw [if_pos e8] at h ⊢
      by_cases hc : numAt s 1 1 = 0
      · rw [if_pos hc] at h ⊢
        by_cases hz : (ad4 s 4 == Ad.z) = true
        · have hz' : ad4 s 4 = Ad.z := by simpa using hz
          simp only at h ⊢
          rw [hc, hz']
          simp [good4]
        · rw [if_neg hz] at h; simp at h
      · rw [if_neg hc] at h ⊢
        simp only at h ⊢
        unfold good4
        simp only [hq']
        simp
        omega
    rw [if_neg e8] at h ⊢
    by_cases hz : (ad4 s 4 == Ad.z) = true ∧ 0 < numAt s 10 2
    · rw [if_pos hz] at h; simp at h
    rw [if_neg hz] at h ⊢
    simp only at h ⊢
    obtain ⟨g1, g2⟩ := rSrcF_good h
    have hl : (ad4 s 4 != Ad.z || (rSrcF s 12 (numAt s 10 2)).1.length == 0) = true := by
      rw [g2]
      have e : (ad4 s 4 != Ad.z) = !(ad4 s 4 == Ad.z) := rfl
      rw [e]
      cases hx : (ad4 s 4 == Ad.z)
      · rfl
      · have : numAt s 10 2 = 0 := by
          by_cases h0 : numAt s 10 2 = 0
          · exact h0
          · exact absurd ⟨hx, by omega⟩ hz
        rw [this]; rfl
    unfold good4
    simp only [hq', hl, g1, ex8_val hc1, ex8_val hc9]
    have := Nat.mod_lt (numAt s 8 1) (show 0 < 8 by omega)
    simp
    omega
  rw [if_neg h17] at h ⊢
  by_cases h34 : numAt s 0 1 = 34
  · rw [if_pos h34] at h ⊢
    simp only at h ⊢
    unfold rRecF at h ⊢
    by_cases h64 : 64 < numAt s 6 2
    · rw [if_pos h64] at h; simp at h
    rw [if_neg h64] at h ⊢
    obtain ⟨g1, g2, g3⟩ := rRecL_good (s := s) (n := numAt s 6 2) (f := 65) (i := 0) (k := 8) (X := []) rfl (by simp [recN]) (by simp) (by omega) (by omega) (by omega) h
    unfold good4
    simp only [g1]
    simp
    omega
  rw [if_neg h34] at h ⊢
  by_cases h3 : numAt s 0 1 = 18 ∨ numAt s 0 1 = 22 ∨ numAt s 0 1 = 23
  · rw [if_pos h3] at h ⊢
    simp only at h ⊢
    have hg : grp4 (ad4 s 4) = true := by
      cases hx : grp4 (ad4 s 4)
      · rw [hx] at h; simp at h
      · rfl
    rcases h3 with h3 | h3 | h3
    all_goals
      rw [h3]
      unfold good4
      simp [hg]
  · rw [if_neg h3] at h; simp at h
theorem rReadF_good (hs : s.size ≤ 1400) (h : (rReadF s).2 = 0) : good4 (rReadF s).1 = true := by
  unfold rReadF at h ⊢
  by_cases h8 : s.size < 8
  · rw [if_pos h8] at h; simp at h
  rw [if_neg h8] at h ⊢
  by_cases hb : sumOk s = false
  · rw [if_pos hb] at h; simp at h
  rw [if_neg hb] at h ⊢
  by_cases h0 : (rReadT s).2 = 0
  · rw [if_pos h0] at h ⊢
    exact rReadT_good (by omega) hs h0
  · rw [if_neg h0] at h; exact absurd h h0
end
end
section
set_option linter.unusedVariables false
set_option linter.unusedSimpArgs false

section
variable {s : ByteArray} {pre post : List UInt8} {k n v : Nat} {a : Ad}
theorem rcOk4_all {r : Rc} (h : rcOk4 r = true) : 1 ≤ r.kind ∧ r.kind ≤ 6 ∧ grp4 r.grp = true ∧ srcs4 r.src = true := by
  unfold rcOk4 at h
  simp only [Bool.and_eq_true, decide_eq_true_eq] at h
  exact ⟨h.1.1.1, h.1.1.2, h.1.2, h.2⟩
end
/-! ### a talk's bytes -/
theorem good4_cases {T : Tk} (h : good4 T = true) :
    T = ⟨false, 1, 1, 0, Ad.z, false, 0, 0, [], []⟩ ∨
    (∃ r g, T = ⟨false, 2, 1, r, g, false, 0, 0, [], []⟩ ∧ 0 < r ∧ r < 256 ∧ (g = Ad.z ∨ grp4 g = true)) ∨
    (∃ g k v, T = ⟨false, v, k, 0, g, false, 0, 0, [], []⟩ ∧ grp4 g = true ∧ ((v = 1 ∧ k = 2) ∨ (v = 2 ∧ k = 2) ∨ (v = 2 ∧ k = 3))) ∨
    (∃ R, T = ⟨false, 3, 2, 0, Ad.z, false, 0, 0, [], R⟩ ∧ R.all rcOk4 = true ∧ R.length < 65) ∨
    (∃ resp g q rob ev src, T = ⟨false, 3, 1, resp, g, q, rob, ev, src, []⟩ ∧ ex8 resp = true ∧ ex8 ev = true ∧ 0 ≤ rob ∧ rob < 8 ∧ srcs4 src = true ∧ (g = Ad.z ∨ grp4 g = true) ∧ (g ≠ Ad.z ∨ src = [])) := by
  obtain ⟨v6, ver, kind, resp, g, quiet, rob, every, src, recs⟩ := T
  unfold good4 at h
  simp only at h
  split at h
  · cases h
  rename_i h1
  split at h
  · cases h
  rename_i h2
  split at h
  · cases h
  rename_i h3
  have a1 : v6 = false ∧ 1 ≤ ver ∧ ver ≤ 3 ∧ 1 ≤ kind ∧ kind ≤ 3 := by
    simp at h1
    obtain ⟨⟨⟨h1, g1⟩, g2⟩, g3⟩ := h1
    refine ⟨?_, ?_, ?_, ?_, ?_⟩ <;> first | exact h1 | exact h1.1 | omega
  obtain ⟨rfl, v1, v2, k1, k2⟩ := a1
  clear h1
  have hx : ¬(ver = 3 ∧ kind = 1) → quiet = false ∧ rob = 0 ∧ every = 0 ∧ src = [] := fun hn => by
    have e : (!(ver == 3 && kind == 1)) = true := by
      simp
      omega
    rw [e] at h2
    simp at h2
    exact ⟨h2.1.1.1, h2.1.1.2, h2.1.2, h2.2⟩
  have hr : kind ≠ 1 → resp = 0 := fun hn => by
    have e : (kind != 1) = true := by simpa using hn
    rw [e] at h3
    simp at h3
    exact h3.1
  have hc : ¬(ver = 3 ∧ kind = 2) → recs = [] := fun hn => by
    have e : (decide (ver < 3) || kind != 2) = true := by
      simp
      omega
    rw [e] at h3
    simp at h3
    exact h3.2
  clear h2 h3
  by_cases e3 : kind = 3
  · subst e3
    obtain ⟨rfl, rfl, rfl, rfl⟩ := hx (by omega)
    obtain rfl := hr (by omega)
    obtain rfl := hc (by omega)
    rw [if_pos (by rfl)] at h
    simp at h
    obtain ⟨rfl, hg⟩ := h
    exact .inr (.inr (.inl ⟨g, 3, 2, rfl, hg, .inr (.inr ⟨rfl, rfl⟩)⟩))
  rw [if_neg (by simpa using e3)] at h
  by_cases e2 : kind = 2
  · subst e2
    obtain ⟨rfl, rfl, rfl, rfl⟩ := hx (by omega)
    obtain rfl := hr (by omega)
    by_cases e4 : ver = 3
    · subst e4
      simp at h
      obtain ⟨hR, ⟨rfl, hl⟩, _⟩ := h
      exact .inr (.inr (.inr (.inl ⟨recs, rfl, by simpa using hR, hl⟩)))
    · obtain rfl := hc (by omega)
      rw [if_pos (by simp; omega)] at h
      exact .inr (.inr (.inl ⟨g, 2, ver, rfl, h, by omega⟩))
  obtain rfl : kind = 1 := by omega
  obtain rfl := hc (by omega)
  simp only [show ((1 : Int) == 2) = false from rfl, Bool.false_and, Bool.false_eq_true, if_false] at h
  by_cases w1 : ver = 1
  · subst w1
    obtain ⟨rfl, rfl, rfl, rfl⟩ := hx (by omega)
    simp at h
    obtain ⟨rfl, rfl⟩ := h
    exact .inl rfl
  rw [if_neg (by simpa using w1)] at h
  split at h
  · cases h
  rename_i h4
  have hg : g = Ad.z ∨ grp4 g = true := by
    by_cases hz : g = Ad.z
    · exact .inl hz
    · right
      have e : (g != Ad.z) = true := by simpa using hz
      rw [e] at h4
      simpa using h4
  by_cases w2 : ver = 2
  · subst w2
    obtain ⟨rfl, rfl, rfl, rfl⟩ := hx (by omega)
    rw [if_pos (by rfl)] at h
    simp at h
    exact .inr (.inl ⟨resp, g, rfl, h.1, h.2, hg⟩)
  obtain rfl : ver = 3 := by omega
  rw [if_neg (by decide)] at h
  simp only [Bool.and_eq_true, decide_eq_true_eq, Bool.or_eq_true, bne_iff_ne, ne_eq, beq_iff_eq, List.length_eq_zero_iff] at h
  exact .inr (.inr (.inr (.inr ⟨resp, g, quiet, rob, every, src, rfl, h.1.1.1.1.1, h.1.1.1.1.2, h.1.1.1.2, h.1.1.2, h.1.2, hg, h.2⟩)))
end
end Go.Proofs.YtdnehjhijmeihaaGreat
