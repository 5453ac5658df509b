/-
  Joined texts: Vj, Vk.
-/
import Derived.Test.YtdnehjhijmeihaaGreatQVp
import Derived.Test.YtdnehjhijmeihaaGreatQSl
import Derived.Test.YtdnehjhijmeihaaGreatQVef
namespace Go.Proofs.YtdnehjhijmeihaaGreat.V
-- %in
open Go.ChangeShapes Go.WideShapes Go.ChangeAt Go.RowKit
set_option linter.unusedVariables false
set_option linter.unusedSimpArgs false
set_option maxRecDepth 20000
attribute [local irreducible] wpList

def ad16 (s : ByteArray) (k : Nat) : Ad := adR (s.extract k (k + 16))
def srcAt (s : ByteArray) (k n : Nat) : List Ad := (List.range n).map fun i => ad16 s (k + 16 * i)
def rSrcF (s : ByteArray) (k n : Nat) : List Ad × Int := if 64 < n then ([], 6) else if s.size < k + 16 * n then ([], 3) else (srcAt s k n, 0)
theorem srcAt_len (s : ByteArray) (k n : Nat) : (srcAt s k n).length = n := by simp [srcAt]
theorem srcAt_snoc (s : ByteArray) (k n : Nat) : srcAt s k (n + 1) = srcAt s k n ++ [ad16 s (k + 16 * n)] := by simp [srcAt, List.range_succ]
def SrcPost (w : World) (L : List Ad) (c : Int) (e : Ending) (w' : World) : Prop := ∃ p cc D, e = .returned (.tuple #[.slice p L.length cc, .int .i64 c]) ∧ Made w w' D ∧ ∀ B w0 W, Hp B w0 W D → AdsAt W p L
theorem SrcPost.mk {w : World} {L : List Ad} {c : Int} {e : Ending} {w' : World} {p : Option Addr} {cc : Nat} {D : HB} (h1 : e = .returned (.tuple #[.slice p L.length cc, .int .i64 c])) (h2 : Made w w' D) (h3 : ∀ B w0 W, Hp B w0 W D → AdsAt W p L) : SrcPost w L c e w' := ⟨p, cc, D, h1, h2, h3⟩
section
variable {w : World} {s : ByteArray}
set_option maxHeartbeats 1000000 in
theorem rsixteen_any {k : Nat} (hk : k + 16 ≤ s.size) (hs : s.size ≤ 100000) : Gives Tryz.prog 113 #[.string s, .int .i64 (k : Int)] w (.agg (fls [.many (adL (ad16 s k)) 17]).toArray) := by
  have hx : (s.extract k (k + 16)).size = 16 := by rw [extract_size hk (by omega)]; omega
  have ra : ∀ w, Gives Tryz.prog 60 #[.string (s.extract k (k + 16))] w (.tuple #[.agg (fls [.many (adL (ad16 s k)) 17]).toArray, .bool true]) := fun w => by
    unfold ad16
    rw [adR_six hx, addr_segs1]
    exact raRead_t (b := true) rfl (by simpa using hx)
  have oA := adL_ok (ad16 s k)
  generalize adL (ad16 s k) = A at *
  clear hx
  have d1 : decide ((k : Int) + 16 ≤ (s.size : Int)) = true := decide_eq_true (by omega)
  have d2 : (k : Int) + 16 ≤ (s.size : Int) := by omega
  refine Gives.of ?_
  have hH := Hp.refl w
  go_enter Tryz.func113, Tryz.ntmps113
  go_wp2_with (first | (refine st ?_; clear hH; (first | intro W g hH | intro W hH)))
  (refine iRet Tryz.results113 tab_ok rfl rfl hH ?_; refine ⟨_, _, rfl, rfl, rfl, ?_⟩)
  exact ⟨rfl, hH.below⟩
set_option maxHeartbeats 1000000 in
theorem rsources_any {k n : Nat} (hn : n < 65536) (hk : k ≤ 200000) (hs : s.size ≤ 100000) : Calls Tryz.prog 118 #[.string s, .int .i64 (k : Int), .int .i64 (n : Int)] w fun e w' => SrcPost w (rSrcF s k n).1 (rSrcF s k n).2 e w' := by
  have hH := Hp.refl w
  unfold rSrcF
  by_cases h64 : 64 < n
  · rw [if_pos h64]
    have d1 : decide ((64 : Int) < (n : Int)) = true := decide_eq_true (by omega)
    go_enter Tryz.func118, Tryz.ntmps118
    go_wp2_with (first | ((refine hSl0 tab_ok rfl ?_ tabs_ok rfl rfl rfl hH ?_; (focus (first | exact wN rfl | exact rfl)); clear hH; intro W g hH; (try simp only [Act.put, pA, pB, pC]))) | (refine st ?_; clear hH; (first | intro W g hH | intro W hH)))
    go_ret2
    exact SrcPost.mk (L := []) (p := some ⟨g, 0, none⟩) (cc := 0) (D := []) rfl ⟨hH.nil, by simp⟩ (fun B w0 W h => AdsAt.nil)
  rw [if_neg h64]
  have d1 : decide ((64 : Int) < (n : Int)) = false := decide_eq_false (by omega)
  by_cases hz : s.size < k + 16 * n
  · rw [if_pos hz]
    have d2 : decide ((s.size : Int) < (k : Int) + 16 * (n : Int)) = true := decide_eq_true (by omega)
    have d3 : (s.size : Int) < (k : Int) + 16 * (n : Int) := by omega
    clear h64 hz
    go_enter Tryz.func118, Tryz.ntmps118
    go_wp2_with (first | ((refine hSl0 tab_ok rfl ?_ tabs_ok rfl rfl rfl hH ?_; (focus (first | exact wN rfl | exact rfl)); clear hH; intro W g hH; (try simp only [Act.put, pA, pB, pC]))) | (refine st ?_; clear hH; (first | intro W g hH | intro W hH)))
    go_ret2
    exact SrcPost.mk (L := []) (p := some ⟨g, 0, none⟩) (cc := 0) (D := []) rfl ⟨hH.nil, by simp⟩ (fun B w0 W h => AdsAt.nil)
  rw [if_neg hz]
  have d2 : decide ((s.size : Int) < (k : Int) + 16 * (n : Int)) = false := decide_eq_false (by omega)
  have d3 : (k : Int) + 16 * (n : Int) ≤ (s.size : Int) := by omega
  have HZ := Lib.hid hz
  clear hz
  go_enter Tryz.func118, Tryz.ntmps118
  go_wp2_with (first | ((refine hSl0 tab_ok rfl ?_ tabs_ok rfl rfl rfl hH ?_; (focus (first | exact wN rfl | exact rfl)); clear hH; intro W g hH; (try simp only [Act.put, pA, pB, pC]))) | (refine st ?_; clear hH; (first | intro W g hH | intro W hH)))
  clear d1 d2 d3
  go_loopw [8, 9] (fun sl i wr => ∃ (j : Nat) (X : List Ad) (go cc q : Nat) (J : List Value), i = .int .i64 (j : Int) ∧ j ≤ n ∧ Hid (X = srcAt s k j) ∧ X.length = j ∧ sl = .slice (some ⟨go, 0, none⟩) X.length cc ∧ Grow 17 X.length cc (X.length * 17) q ∧ OkA J q ∧ Hp w.heap.size w wr [(go, 25, true, [.many (adsL X) (X.length * 17), .many J q])]) (fun _ i _ => n - (intOf i).toNat)
  case atStart => exact ⟨0, [], g, 0, 0, [], rfl, by omega, Lib.hid rfl, rfl, rfl, ⟨rfl, rfl, Nat.le_refl _, by simp [maxLen]⟩, ⟨rfl, by simp⟩, hH⟩
  case round =>
    clear hH
    obtain ⟨j, X, go, cc, q, J, rfl, hj, hX, hXj, rfl, hG, oJ, hH⟩ := hrel
    by_cases hjn : j < n
    · have dj : decide ((j : Int) < (n : Int)) = true := decide_eq_true (by omega)
      have hk4 : k + 16 * j + 16 ≤ s.size := by have := HZ.out; omega
      have f4 : ∀ w, Gives Tryz.prog 113 #[.string s, .int .i64 ((k : Int) + 16 * (j : Int))] w (.agg (fls [.many (adL (ad16 s (k + 16 * j))) 17]).toArray) := fun w => by
        have := rsixteen_any (w := w) (k := k + 16 * j) hk4 hs
        rwa [show ((k + 16 * j : Nat) : Int) = (k : Int) + 16 * (j : Int) by push_cast; rfl] at this
      have oY := adL_ok (ad16 s (k + 16 * j))
      have hSnoc := Lib.hid (adsL_snoc X (ad16 s (k + 16 * j)))
      have hNew := Lib.hid (show X ++ [ad16 s (k + 16 * j)] = srcAt s k (j + 1) by rw [srcAt_snoc, hX.out])
      generalize ad16 s (k + 16 * j) = y at *
      obtain ⟨Y, hY⟩ : ∃ Y, Y = adL y := ⟨_, rfl⟩
      rw [← hY] at f4 oY hSnoc
      clear hY hk4 hX
      have hXj := Lib.hid hXj
      have hX64 : X.length ≤ 64 := by have := hXj.out; omega
      go_wp2_with (first | (((first | (refine hApp 1 0 tab_ok tabs_ok rfl rfl rfl rfl rfl rfl rfl hH rfl rfl rfl rfl ?_; refine ⟨?_, ?_, ?_⟩; (focus assumption); (focus (first | omega | (simp; omega))))); clear hH; intro W g c p q J hG hL hJ hH; (try simp only [putH, fls, List.append_nil] at hH hL); (try simp only [Act.put, pA, pB, pC]))) | (refine st ?_; clear hH; (first | intro W g hH | intro W hH)))
      have hp := hG.hp
      have hq := hG.hq
      have hle := hG.le
      have hmo := hG.most
      have e1 : (X ++ [y]).length = X.length + 1 := by simp
      refine ⟨⟨j + 1, X ++ [y], g, c, q, J, by simp, by omega, hNew, by rw [e1, hXj.out], by simp, by rw [e1]; exact ⟨rfl, by rw [← hq, hp], hle, hmo⟩, hJ, ?_⟩, by simp [intOf]; omega⟩
      rw [show (X ++ [y]).length * 17 = p by rw [hp, e1], hSnoc.out]
      exact hH.sub (SubH.drop SubH.refl)
    · have dj : decide ((j : Int) < (n : Int)) = false := decide_eq_false (by omega)
      have e : j = n := by omega
      have hXm : X.length ≤ 9223372036854775807 := by omega
      have HL := Lib.hid (show srcAt s k n = X by rw [hX.out, e])
      clear hX hXj e hG
      go_wp2_with (first | (refine st ?_; clear hH; (first | intro W g hH | intro W hH)))
      go_ret2
      refine SrcPost.mk (p := some ⟨go, 0, none⟩) (cc := cc) (D := [(go, 25, true, [.many (adsL X) (X.length * 17), .many J q])]) (by rw [HL.out]; rfl) ⟨hH, by simp⟩ (fun B w0 W h => ?_)
      rw [HL.out]
      exact adsAt_row hXm (by have := (h.rows.mem (i := 0) rfl).1; rwa [fls_two] at this)
end
end Go.Proofs.YtdnehjhijmeihaaGreat.V
namespace Go.Proofs.YtdnehjhijmeihaaGreat.V
-- %in
open Go.ChangeShapes Go.WideShapes Go.ChangeAt Go.RowKit
set_option linter.unusedVariables false
set_option linter.unusedSimpArgs false
set_option maxRecDepth 20000
attribute [local irreducible] wpList

theorem numAt_get {s : ByteArray} {k : Nat} (h : k < s.size) : s[k].toNat = numAt s k 1 := by
  have hl : k < s.data.toList.length := by rw [size_toList]; exact h
  unfold numAt
  rw [List.drop_eq_getElem_cons hl, List.take_succ_cons, List.take_zero]
  show (s.data[k]).toNat = _
  rw [← Array.getElem_toList]
  simp [numL]
theorem rNumAt8 {s : ByteArray} {i j : Nat} {w : World} (h : i ≤ j) (hj : j ≤ i + 8) : Gives Tryz.prog 22 #[.string (s.extract i j)] w (.int .u64 (numAt s i (j - i) : Int)) := by
  have := rnum_any (s := s.extract i j) (w := w) (Nat.le_trans (cut_size2 s i j) (by omega))
  rwa [toList_extract] at this
theorem run_at {s : ByteArray} {k : Nat} (h : k < s.size) (x : Int) (hx : x = (k : Int)) (W : World) : (Instr.index 9 (.string s) (.int .i64 x)).run Tryz.prog W = .ok (.int .u8 (numAt s k 1 : Int)) W := by
  rw [run_idx Tryz.underlying9 s k h x hx W, numAt_get h]
def recAt (s : ByteArray) (k : Nat) : Rc := ⟨numAt s k 1, ad16 s (k + 4), (rSrcF s (k + 20) (numAt s (k + 2) 2)).1⟩
def okAt (s : ByteArray) (k : Nat) : Bool := decide (0 < numAt s k 1) && (decide (numAt s k 1 < 7) && grp6 (ad16 s (k + 4)))
def endAt (s : ByteArray) (k : Nat) : Nat := k + 20 + 16 * numAt s (k + 2) 2 + 4 * numAt s (k + 1) 1
def rRecL (s : ByteArray) (n : Nat) : Nat → Nat → Nat → List Rc → List Rc × Int
  | 0, _, _, X => (X, 0)
  | f + 1, i, k, X => if i < n then (if s.size < k + 20 then (X, 3) else if (rSrcF s (k + 20) (numAt s (k + 2) 2)).2 ≠ 0 then (X, (rSrcF s (k + 20) (numAt s (k + 2) 2)).2) else if s.size < endAt s k then (X, 3) else rRecL s n f (i + 1) (endAt s k) (if okAt s k then X ++ [recAt s k] else X)) else (X, 0)
def rRecF (s : ByteArray) : List Rc × Int := if 64 < numAt s 6 2 then ([], 6) else rRecL s (numAt s 6 2) 65 0 8 []
theorem rRecL_end {s : ByteArray} {n f i k : Nat} {X : List Rc} (h : ¬i < n) : rRecL s n f i k X = (X, 0) := by
  cases f with
  | zero => rfl
  | succ f => rw [rRecL, if_neg h]
def RecsPost (w : World) (R : List Rc) (c : Int) (e : Ending) (w' : World) : Prop := ∃ p cc D, e = .returned (.tuple #[.slice p R.length cc, .int .i64 c]) ∧ Made w w' D ∧ ∀ B w0 W, Hp B w0 W D → RcsAt W p R
theorem RecsPost.mk {w : World} {R : List Rc} {c : Int} {e : Ending} {w' : World} {p : Option Addr} {cc : Nat} {D : HB} (h1 : e = .returned (.tuple #[.slice p R.length cc, .int .i64 c])) (h2 : Made w w' D) (h3 : ∀ B w0 W, Hp B w0 W D → RcsAt W p R) : RecsPost w R c e w' := ⟨p, cc, D, h1, h2, h3⟩
theorem RecsPost.own {w w' : World} {R : List Rc} {c : Int} {e : Ending} {X : List Rv} {go cc q : Nat} {J : List Value} {D : HB} (hR : R = X.map Rv.r) (h1 : e = .returned (.tuple #[.slice (some ⟨go, 0, none⟩) X.length cc, .int .i64 c])) (hXm : X.length ≤ 1000)
    (hH : Hp w.heap.size w w' ((go, 119, true, [.many (rvsL X) (X.length * 19), .many J q]) :: D)) (HD : Hid (∀ r ∈ D, r.2.2.1 = true)) (HXD : Hid (∀ x ∈ X, ∀ B w0 W, Hp B w0 W D → AdsAt W x.p x.r.src)) : RecsPost w R c e w' := by
  subst hR
  refine RecsPost.mk (D := (go, 119, true, [.many (rvsL X) (X.length * 19), .many J q]) :: D) (p := some ⟨go, 0, none⟩) (cc := cc) (by rw [List.length_map]; exact h1) ⟨hH, fun r hr => ?_⟩ (fun B w0 W h => rcsAt_row (by omega) (by have := (h.rows.mem (i := 0) rfl).1; rwa [fls_two] at this) (fun x hx => HXD.out x hx _ _ _ (h.sub (SubH.drop SubH.refl))))
  rcases List.mem_cons.1 hr with rfl | hr
  · rfl
  · exact HD.out r hr
/-- sources, from any place -/
def SrcR (B : Nat) (w0 : World) (s : ByteArray) (k n : Nat) (L : List Ad) (c : Int) : Prop :=
  ∀ (W : World) (H : HB) (Q : Ending → World → Prop) (x y : Int), x = (k : Int) → y = (n : Int) → Hp B w0 W H → (∀ W' p cc D, Hid (∀ B w0 W, Hp B w0 W D → AdsAt W p L) → Hid (∀ r ∈ D, r.2.2.1 = true) → Hp B w0 W' (H ++ D) → Q (.returned (.tuple #[.slice p L.length cc, .int .i64 c])) W') → Calls Tryz.prog 118 #[.string s, .int .i64 x, .int .i64 y] W Q
theorem rSrcF_ok {s : ByteArray} {k n : Nat} (h : (rSrcF s k n).2 = 0) : n ≤ 64 ∧ k + 16 * n ≤ s.size ∧ (rSrcF s k n).1 = srcAt s k n := by
  unfold rSrcF at *
  split at h
  · simp at h
  · split at h
    · simp at h
    · rename_i h1 h2
      rw [if_neg h1, if_neg h2]
      exact ⟨by omega, by omega, rfl⟩
section
variable {B : Nat} {w0 w : World} {s : ByteArray}
theorem srcR {k n : Nat} (hn : n < 65536) (hk : k ≤ 200000) (hs : s.size ≤ 100000) : SrcR B w0 s k n (rSrcF s k n).1 (rSrcF s k n).2 := by
  intro W H Q x y hx hy hH hQ
  subst hx
  subst hy
  exact (rsources_any hn hk hs).mono fun _ _ ⟨p, cc, D, he, hm, hr⟩ => by subst he; exact hQ _ p cc D (Lib.hid hr) (Lib.hid hm.2) (hH.join hm)
set_option maxHeartbeats 2000000 in
theorem rrecords_any (h8 : 8 ≤ s.size) (hs : s.size ≤ 100000) : Calls Tryz.prog 64 #[.string s] w fun e w' => RecsPost w (rRecF s).1 (rRecF s).2 e w' := by
  have n1 : ∀ w, Gives Tryz.prog 22 #[.string (s.extract 6 8)] w (.int .u64 (numAt s 6 2 : Int)) := fun w => rNumAt8 (by omega) (by omega)
  have hn : numAt s 6 2 < 65536 := numAt_lt s 6 2
  unfold rRecF
  obtain ⟨n, en⟩ : ∃ n, numAt s 6 2 = n := ⟨_, rfl⟩
  rw [en] at n1 hn ⊢
  clear en
  have hH := Hp.refl w
  have dz : decide ((8 : Int) ≤ (s.size : Int)) = true := decide_eq_true (by omega)
  by_cases h64 : 64 < n
  · rw [if_pos h64]
    have d1 : decide ((64 : Int) < (n : Int)) = true := decide_eq_true (by omega)
    go_enter Tryz.func64, Tryz.ntmps64
    go_wp2_with (first | ((refine hSl0 tab_ok rfl ?_ tabs_ok rfl rfl rfl hH ?_; (focus (first | exact wN rfl | exact rfl)); clear hH; intro W g hH; (try simp only [Act.put, pA, pB, pC]))) | (refine st ?_; clear hH; (first | intro W g hH | intro W hH)))
    go_ret2
    exact RecsPost.mk (R := []) (p := some ⟨g, 0, none⟩) (cc := 0) (D := []) rfl ⟨hH.nil, by simp⟩ (fun B w0 W h => RcsAt.nil)
  rw [if_neg h64]
  obtain ⟨res, hres⟩ : ∃ r, rRecL s n 65 0 8 [] = r := ⟨_, rfl⟩
  rw [hres]
  have HL := Lib.hid hres
  clear hres
  have d1 : decide ((64 : Int) < (n : Int)) = false := decide_eq_false (by omega)
  have hn64 : n ≤ 64 := by omega
  clear h64
  go_enter Tryz.func64, Tryz.ntmps64
  go_wp2_with (first | ((refine hSl0 tab_ok rfl ?_ tabs_ok rfl rfl rfl hH ?_; (focus (first | exact wN rfl | exact rfl)); clear hH; intro W g hH; (try simp only [Act.put, pA, pB, pC]))) | (refine st ?_; clear hH; (first | intro W g hH | intro W hH)))
  clear n1 d1 dz
  go_loopw [4, 5, 7] (fun sl at_ i wr => ∃ (j k f : Nat) (X : List Rv) (D : HB) (go cc q : Nat) (J : List Value), i = .int .i64 (j : Int) ∧ at_ = .int .i64 (k : Int) ∧ sl = .slice (some ⟨go, 0, none⟩) X.length cc ∧ Hid (rRecL s n f j k (X.map Rv.r) = res) ∧ f + j = 65 ∧ j ≤ n ∧ k ≤ s.size ∧ X.length ≤ j ∧ Hid (∀ r ∈ D, r.2.2.1 = true) ∧ Hid (∀ x ∈ X, ∀ B w0 W, Hp B w0 W D → AdsAt W x.p x.r.src) ∧ Grow 19 X.length cc (X.length * 19) q ∧ OkA J q ∧ Hp w.heap.size w wr ((go, 119, true, [.many (rvsL X) (X.length * 19), .many J q]) :: D)) (fun _ _ i _ => n - (intOf i).toNat)
  case atStart => exact ⟨0, 8, 65, [], [], g, 0, 0, [], rfl, rfl, rfl, HL, rfl, by omega, h8, by simp, Lib.hid (by simp), Lib.hid (by simp), ⟨rfl, rfl, Nat.le_refl _, by simp [maxLen]⟩, ⟨rfl, by simp⟩, hH⟩
  case round =>
    clear hH HL
    obtain ⟨j, k, f, X, D, go, cc, q, J, rfl, rfl, rfl, HL, hf, hj, hk, hXj, HD, HXD, hG, oJ, hH⟩ := hrel
    have hXm : X.length ≤ 1000 := by omega
    by_cases hjn : j < n
    rotate_left
    · have dj : decide ((j : Int) < (n : Int)) = false := decide_eq_false (by omega)
      have HE := Lib.hid ((rRecL_end (f := f) (k := k) (X := X.map Rv.r) hjn).symm.trans HL.out)
      clear hG hXj HL
      go_wp2_with (first | (refine st ?_; clear hH; (first | intro W g hH | intro W hH)))
      go_ret2
      rw [← HE.out]
      exact RecsPost.own rfl rfl hXm hH HD HXD
    have dj : decide ((j : Int) < (n : Int)) = true := decide_eq_true (by omega)
    obtain ⟨f', rfl⟩ : ∃ f', f = f' + 1 := ⟨f - 1, by omega⟩
    have hL := HL.out
    rw [rRecL, if_pos hjn] at hL
    clear HL
    by_cases h1 : s.size < k + 20
    · rw [if_pos h1] at hL
      have HE := Lib.hid hL
      have d1 : decide ((s.size : Int) < (k : Int) + 20) = true := decide_eq_true (by omega)
      have d2 : (s.size : Int) < (k : Int) + 20 := by omega
      clear hG hXj hL
      go_wp2_with (first | (refine st ?_; clear hH; (first | intro W g hH | intro W hH)))
      go_ret2
      rw [← HE.out]
      exact RecsPost.own rfl rfl hXm hH HD HXD
    rw [if_neg h1] at hL
    have hk8 : k + 20 ≤ s.size := by omega
    have d1 : decide ((s.size : Int) < (k : Int) + 20) = false := decide_eq_false (by omega)
    have d2 : (k : Int) + 20 ≤ (s.size : Int) := by omega
    have d3 : (k : Int) + 4 ≤ (s.size : Int) := by omega
    have d4 : decide ((k : Int) + 4 ≤ (s.size : Int)) = true := decide_eq_true (by omega)
    have d5 : decide ((k : Int) + 2 ≤ (k : Int) + 4) = true := decide_eq_true (by omega)
    have n2 : ∀ w, Gives Tryz.prog 22 #[.string (s.extract (k + 2) (k + 4))] w (.int .u64 (numAt s (k + 2) 2 : Int)) := fun w => by
      have := rNumAt8 (s := s) (w := w) (i := k + 2) (j := k + 4) (by omega) (by omega)
      rwa [show k + 4 - (k + 2) = 2 by omega] at this
    have i0 : ∀ W, (Instr.index 9 (.string s) (.int .i64 (k : Int))).run Tryz.prog W = .ok (.int .u8 (numAt s k 1 : Int)) W := fun W => run_at (by omega) _ rfl W
    have i1 : ∀ W, (Instr.index 9 (.string s) (.int .i64 ((k : Int) + 1))).run Tryz.prog W = .ok (.int .u8 (numAt s (k + 1) 1 : Int)) W := fun W => run_at (by omega) _ (by push_cast; rfl) W
    have f4 : ∀ w, Gives Tryz.prog 113 #[.string s, .int .i64 ((k : Int) + 4)] w (.agg (fls [.many (adL (ad16 s (k + 4))) 17]).toArray) := fun w => by
      have := rsixteen_any (w := w) (s := s) (k := k + 4) (by omega) hs
      rwa [show ((k + 4 : Nat) : Int) = (k : Int) + 4 by push_cast; rfl] at this
    have hb0 : numAt s k 1 < 256 := numAt_lt s k 1
    have hb1 : numAt s (k + 1) 1 < 256 := numAt_lt s (k + 1) 1
    have hm : numAt s (k + 2) 2 < 65536 := numAt_lt s (k + 2) 2
    have SR := srcR (B := w.heap.size) (w0 := w) (s := s) (k := k + 20) hm (by omega) hs
    have hok := rSrcF_ok (s := s) (k := k + 20) (n := numAt s (k + 2) 2)
    unfold endAt okAt recAt at hL
    generalize numAt s k 1 = b0 at *
    generalize numAt s (k + 1) 1 = b1 at *
    generalize numAt s (k + 2) 2 = m at *
    generalize ad16 s (k + 4) = a at *
    have f7 : ∀ w, Gives Tryz.prog 114 #[.agg (fls [.many (adL a) 17]).toArray] w (.bool (grp6 a)) := fun w => rGroup6_any
    have oA := adL_ok a
    obtain ⟨A, hA'⟩ : ∃ Y, Y = adL a := ⟨_, rfl⟩
    rw [← hA'] at f4 f7 oA
    have HA' := Lib.hid hA'
    clear hA'
    generalize grp6 a = gb at *
    obtain ⟨L, c, hLc⟩ : ∃ L c, rSrcF s (k + 20) m = (L, c) := ⟨_, _, rfl⟩
    rw [hLc] at hL SR hok
    simp only at hL SR hok
    have SR := Lib.hid SR
    have HF := Lib.hid hf
    clear hLc h1 hf
    by_cases hc : c = 0
    rotate_left
    · rw [if_pos hc] at hL
      have HE := Lib.hid hL
      have dc : (c != 0) = true := by simpa using hc
      clear hG hXj hL hok
      go_wp2_with (first | ((go_at_call 118; refine SR.out _ _ _ _ _ ?_ ?_ hH ?_; (focus (first | rfl | (push_cast; rfl) | (simp; done))); (focus (first | rfl | (push_cast; rfl) | (simp; done))); (clear hH; intro W sp sc D' hA hD' hH); (try simp only [List.cons_append, List.nil_append, List.append_assoc] at hH); (try simp only [Act.put, List.setIfInBounds_toArray, List.set_cons_succ, List.set_cons_zero]))) | (refine st ?_; clear hH; (first | intro W g hH | intro W hH)))
      go_ret2
      rw [← HE.out]
      refine RecsPost.own (D := D ++ D') rfl rfl hXm hH (own_app HD hD') (in_app HXD)
    have hm64 := (hok hc).1
    have hkm := (hok hc).2.1
    subst hc
    rw [if_neg (by simp)] at hL
    clear hok
    by_cases h2 : s.size < k + 20 + 16 * m + 4 * b1
    · rw [if_pos h2] at hL
      have HE := Lib.hid hL
      have d6 : decide ((s.size : Int) < (k : Int) + 20 + 16 * (m : Int) + 4 * (b1 : Int)) = true := decide_eq_true (by omega)
      have d7 : (s.size : Int) < (k : Int) + 20 + 16 * (m : Int) + 4 * (b1 : Int) := by omega
      clear hG hXj hL h2
      go_wp2_with (first | ((go_at_call 118; refine SR.out _ _ _ _ _ ?_ ?_ hH ?_; (focus (first | rfl | (push_cast; rfl) | (simp; done))); (focus (first | rfl | (push_cast; rfl) | (simp; done))); (clear hH; intro W sp sc D' hA hD' hH); (try simp only [List.cons_append, List.nil_append, List.append_assoc] at hH); (try simp only [Act.put, List.setIfInBounds_toArray, List.set_cons_succ, List.set_cons_zero]))) | (refine st ?_; clear hH; (first | intro W g hH | intro W hH)))
      go_ret2
      rw [← HE.out]
      refine RecsPost.own (D := D ++ D') rfl rfl hXm hH (own_app HD hD') (in_app HXD)
    rw [if_neg h2] at hL
    have d6 : decide ((s.size : Int) < (k : Int) + 20 + 16 * (m : Int) + 4 * (b1 : Int)) = false := decide_eq_false (by omega)
    have d7 : (k : Int) + 20 + 16 * (m : Int) + 4 * (b1 : Int) ≤ (s.size : Int) := by omega
    have hke : k + 20 + 16 * m + 4 * b1 ≤ s.size := by omega
    have HXj := Lib.hid hXj
    clear hXj h2
    have HXm := Lib.hid hXm
    go_wp2_with (first | ((go_at_call 118; refine SR.out _ _ _ _ _ ?_ ?_ hH ?_; (focus (first | rfl | (push_cast; rfl) | (simp; done))); (focus (first | rfl | (push_cast; rfl) | (simp; done))); (clear hH; intro W sp sc D' hA hD' hH); (try simp only [List.cons_append, List.nil_append, List.append_assoc] at hH); (try simp only [Act.put, List.setIfInBounds_toArray, List.set_cons_succ, List.set_cons_zero]))) | (refine st ?_; clear hH; (first | intro W g hH | intro W hH)))
    clear d1 d2 d3 d4 d5 d6 d7
    have dk : 0 ≤ (k : Int) + 4 := by omega
    by_cases h0 : 0 < b0
    rotate_left
    · have e0 : decide ((0 : Int) < (b0 : Int)) = false := decide_eq_false (by omega)
      have hokv := Lib.hid (show false = (decide (0 < b0) && (decide (b0 < 7) && gb)) by rw [decide_eq_false h0, Bool.false_and])
      have HL2 := Lib.hid hL
      obtain rfl : b0 = 0 := by omega
      clear hL h0 e0
      clear i1 n2
      ((with_reducible refine regM hH (SubH.refl) (by kernel_rfl) ?_); (clear hH; intro W hH); refine mtt [0, 1, 2, 3, 4, 5, 6, 8] ?_; refine hm_two (fuel := 3) 7 10 rfl rfl (by kernel_rfl) ?_ ?_; (focus (go_wp2_with (first | (refine st ?_; clear hH; (first | intro W g hH | intro W hH))); refine me ?_; refine mtt [9] ?_; refine mo 10 ?_; go_wp2_with (first | (refine st ?_; clear hH; (first | intro W g hH | intro W hH))); refine me ?_; refine mo 11 ?_; go_wp2_with (first | (refine st ?_; clear hH; (first | intro W g hH | intro W hH))); refine me ?_; refine hm_end (by kernel_rfl) ?_)); rotate_left 1; (focus (go_wp2_with (first | (refine st ?_; clear hH; (first | intro W g hH | intro W hH))); refine me ?_; refine mo 7 ?_; go_wp2_with (first | (refine st ?_; clear hH; (first | intro W g hH | intro W hH))); refine me ?_; refine mtt [9] ?_; refine mo 11 ?_; go_wp2_with (first | (refine st ?_; clear hH; (first | intro W g hH | intro W hH))); refine me ?_; refine hm_end (by kernel_rfl) ?_)))
      all_goals
        go_wp2_with (first | (refine st ?_; clear hH; (first | intro W g hH | intro W hH)))
        have HL3 := Lib.hid (show rRecL s n f' (j + 1) (k + 20 + 16 * m + 4 * b1) (X.map Rv.r) = res by have := HL2.out; rwa [← hokv.out] at this)
        refine ⟨⟨j + 1, k + 20 + 16 * m + 4 * b1, f', X, D ++ D', go, cc, q, J, by simp, by push_cast; rfl, rfl, HL3, by have := HF.out; omega, by omega, hke, by have := HXj.out; omega, own_app HD hD', in_app HXD, hG, oJ, hH.sub (SubH.drop SubH.refl)⟩, by simp [intOf]; omega⟩
    have e0 : decide ((0 : Int) < (b0 : Int)) = true := decide_eq_true (by omega)
    by_cases h7 : b0 < 7
    rotate_left
    · have e7 : decide ((b0 : Int) < 7) = false := decide_eq_false (by omega)
      have hokv := Lib.hid (show false = (decide (0 < b0) && (decide (b0 < 7) && gb)) by rw [decide_eq_false h7, Bool.false_and, Bool.and_false])
      have HL2 := Lib.hid hL
      have e7' : (7 : Int) ≤ (b0 : Int) := by omega
      clear hL
      clear i1 n2
      ((with_reducible refine regM hH (SubH.refl) (by kernel_rfl) ?_); (clear hH; intro W hH); refine mtt [0, 1, 2, 3, 4, 5, 6, 8] ?_; refine hm_two (fuel := 3) 7 10 rfl rfl (by kernel_rfl) ?_ ?_; (focus (go_wp2_with (first | (refine st ?_; clear hH; (first | intro W g hH | intro W hH))); refine me ?_; refine mtt [9] ?_; refine mo 10 ?_; go_wp2_with (first | (refine st ?_; clear hH; (first | intro W g hH | intro W hH))); refine me ?_; refine mo 11 ?_; go_wp2_with (first | (refine st ?_; clear hH; (first | intro W g hH | intro W hH))); refine me ?_; refine hm_end (by kernel_rfl) ?_)); rotate_left 1; (focus (go_wp2_with (first | (refine st ?_; clear hH; (first | intro W g hH | intro W hH))); refine me ?_; refine mo 7 ?_; go_wp2_with (first | (refine st ?_; clear hH; (first | intro W g hH | intro W hH))); refine me ?_; refine mtt [9] ?_; refine mo 11 ?_; go_wp2_with (first | (refine st ?_; clear hH; (first | intro W g hH | intro W hH))); refine me ?_; refine hm_end (by kernel_rfl) ?_)))
      all_goals
        go_wp2_with (first | (refine st ?_; clear hH; (first | intro W g hH | intro W hH)))
        have HL3 := Lib.hid (show rRecL s n f' (j + 1) (k + 20 + 16 * m + 4 * b1) (X.map Rv.r) = res by have := HL2.out; rwa [← hokv.out] at this)
        refine ⟨⟨j + 1, k + 20 + 16 * m + 4 * b1, f', X, D ++ D', go, cc, q, J, by simp, by push_cast; rfl, rfl, HL3, by have := HF.out; omega, by omega, hke, by have := HXj.out; omega, own_app HD hD', in_app HXD, hG, oJ, hH.sub (SubH.drop SubH.refl)⟩, by simp [intOf]; omega⟩
    have e7 : decide ((b0 : Int) < 7) = true := decide_eq_true (by omega)
    cases gb
    · have hokv := Lib.hid (show false = (decide (0 < b0) && (decide (b0 < 7) && false)) by rw [Bool.and_false, Bool.and_false])
      have HL2 := Lib.hid hL
      clear hL
      clear i1 n2
      ((with_reducible refine regM hH (SubH.refl) (by kernel_rfl) ?_); (clear hH; intro W hH); refine mtt [0, 1, 2, 3, 4, 5, 6, 8] ?_; refine hm_two (fuel := 3) 7 10 rfl rfl (by kernel_rfl) ?_ ?_; (focus (go_wp2_with (first | (refine st ?_; clear hH; (first | intro W g hH | intro W hH))); refine me ?_; refine mtt [9] ?_; refine mo 10 ?_; go_wp2_with (first | (refine st ?_; clear hH; (first | intro W g hH | intro W hH))); refine me ?_; refine mo 11 ?_; go_wp2_with (first | (refine st ?_; clear hH; (first | intro W g hH | intro W hH))); refine me ?_; refine hm_end (by kernel_rfl) ?_)); rotate_left 1; (focus (go_wp2_with (first | (refine st ?_; clear hH; (first | intro W g hH | intro W hH))); refine me ?_; refine mo 7 ?_; go_wp2_with (first | (refine st ?_; clear hH; (first | intro W g hH | intro W hH))); refine me ?_; refine mtt [9] ?_; refine mo 11 ?_; go_wp2_with (first | (refine st ?_; clear hH; (first | intro W g hH | intro W hH))); refine me ?_; refine hm_end (by kernel_rfl) ?_)))
      all_goals
        go_wp2_with (first | (refine st ?_; clear hH; (first | intro W g hH | intro W hH)))
        have HL3 := Lib.hid (show rRecL s n f' (j + 1) (k + 20 + 16 * m + 4 * b1) (X.map Rv.r) = res by have := HL2.out; rwa [← hokv.out] at this)
        refine ⟨⟨j + 1, k + 20 + 16 * m + 4 * b1, f', X, D ++ D', go, cc, q, J, by simp, by push_cast; rfl, rfl, HL3, by have := HF.out; omega, by omega, hke, by have := HXj.out; omega, own_app HD hD', in_app HXD, hG, oJ, hH.sub (SubH.drop SubH.refl)⟩, by simp [intOf]; omega⟩
    · have hokv := Lib.hid (show true = (decide (0 < b0) && (decide (b0 < 7) && true)) by rw [decide_eq_true h0, decide_eq_true h7]; rfl)
      have HL2 := Lib.hid hL
      clear hL
      clear i1 n2
      ((with_reducible refine regM hH (SubH.refl) (by kernel_rfl) ?_); (clear hH; intro W hH); refine mtt [0, 1, 2, 3, 4, 5, 6, 8] ?_; refine hm_two (fuel := 3) 7 10 rfl rfl (by kernel_rfl) ?_ ?_; (focus (go_wp2_with (first | (refine st ?_; clear hH; (first | intro W g hH | intro W hH))); refine me ?_; refine mtt [9] ?_; refine mo 10 ?_; go_wp2_with (first | (refine st ?_; clear hH; (first | intro W g hH | intro W hH))); refine me ?_; refine mo 11 ?_; go_wp2_with (first | (refine st ?_; clear hH; (first | intro W g hH | intro W hH))); refine me ?_; refine hm_end (by kernel_rfl) ?_)); rotate_left 1; (focus (go_wp2_with (first | (refine st ?_; clear hH; (first | intro W g hH | intro W hH))); refine me ?_; refine mo 7 ?_; go_wp2_with (first | (refine st ?_; clear hH; (first | intro W g hH | intro W hH))); refine me ?_; refine mtt [9] ?_; refine mo 11 ?_; go_wp2_with (first | (refine st ?_; clear hH; (first | intro W g hH | intro W hH))); refine me ?_; refine hm_end (by kernel_rfl) ?_)))
      all_goals
        go_wp2_with (first | (((first | (refine hApp 2 0 tab_ok tabs_ok rfl rfl rfl rfl rfl rfl rfl hH rfl rfl rfl rfl ?_; refine ⟨?_, ?_, ?_⟩; (focus assumption); (focus (first | omega | (simp; omega))))); clear hH; intro W g c p q J hG hL hJ hH; (try simp only [putH, fls, List.append_nil] at hH hL); (try simp only [Act.put, pA, pB, pC]))) | (refine st ?_; clear hH; (first | intro W g hH | intro W hH)))
        have HL3 := Lib.hid (show rRecL s n f' (j + 1) (k + 20 + 16 * m + 4 * b1) (X.map Rv.r ++ [⟨b0, a, L⟩]) = res by have := HL2.out; rwa [← hokv.out] at this)
        have hp := hG.hp
        have hq := hG.hq
        have hle := hG.le
        have hmo := hG.most
        have e1 : (X ++ [(⟨⟨b0, a, L⟩, sp, sc⟩ : Rv)]).length = X.length + 1 := by simp
        refine ⟨⟨j + 1, k + 20 + 16 * m + 4 * b1, f', X ++ [⟨⟨b0, a, L⟩, sp, sc⟩], D ++ D', g, c, q, J, by simp, by push_cast; rfl, by simp, Lib.hid (by rw [List.map_append]; exact HL3.out), by have := HF.out; omega, by omega, hke, by have := HXj.out; simp; omega, own_app HD hD', in_snoc HXD hA, by rw [e1]; exact ⟨rfl, by rw [← hq, hp], hle, hmo⟩, hJ, ?_⟩, by simp [intOf]; omega⟩
        rw [show (X ++ [(⟨⟨b0, a, L⟩, sp, sc⟩ : Rv)]).length * 19 = p by rw [hp, e1], show rvsL (X ++ [(⟨⟨b0, a, L⟩, sp, sc⟩ : Rv)]) = rvsL X ++ (.int .i64 b0 :: (A ++ [.slice sp L.length sc])) by rw [rvsL_snoc, HA'.out]; rfl]
        exact hH.sub (SubH.drop (SubH.drop SubH.refl))
end
end Go.Proofs.YtdnehjhijmeihaaGreat.V
