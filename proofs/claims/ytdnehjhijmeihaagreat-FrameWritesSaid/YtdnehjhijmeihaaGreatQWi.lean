/-
  Joined texts: Wi, Wj, Wk, Wm, Wg, Wn.
-/
import Derived.Test.YtdnehjhijmeihaaGreatQWh
import Derived.Test.YtdnehjhijmeihaaGreatQWf
import Derived.Test.YtdnehjhijmeihaaGreatQWl
import Derived.Test.YtdnehjhijmeihaaGreatQJh
import Derived.Test.YtdnehjhijmeihaaGreatQGx
import Derived.Test.YtdnehjhijmeihaaGreatQJk
namespace Go.Proofs.YtdnehjhijmeihaaGreat
open Go.ChangeShapes Go.WideShapes Go.ChangeAt Go.RowKit
set_option linter.unusedVariables false
set_option linter.unusedSimpArgs false
set_option maxRecDepth 20000
attribute [local irreducible] wpList ByteArray.extract Int.decLt
set_option maxHeartbeats 4000000
theorem len6 {f t : Ad} {T : Tk} (h : good6 T = true) (hF : Few T) : (V.writeT f t T).size ≤ 704 := by
  have hb : ∀ a : Ad, (bytesA a.v a.b).length ≤ 16 := bytesA_le
  rw [V.write_size]
  rcases V.good6_cases h with ⟨r, g, rfl, r1, r2, hg⟩ | ⟨g, k, rfl, hg, hkv⟩ | ⟨R, rfl, hR, hl⟩ | ⟨resp, g, q, rob, ev, src, rfl, h1, h2, h3, h4, h5, hg, h6⟩
  · have := hb g; simp only [V.restL]; simp [putL_length]; omega
  · have := hb g; rcases hkv with rfl | rfl <;> (simp only [V.restL]; simp [putL_length]; omega)
  · have h1 := V.recsB_len hR
    have h2 := recN_few (a := 20) (b := 16) hF.rs
    have h3 := hF.r
    simp only at h2 h3
    simp only [V.restL]
    simp [putL_length, h1]
    omega
  · have := hb g
    have h1 := V.srcB_len (V.srcs6_all h5).1
    have h3 := hF.s
    simp only at h3
    simp only [V.restL]
    simp [putL_length, h1]
    omega
section
variable {B : Nat} {w0 W w : World} {H D D' : HB} {X X' : List Value} {r q : Res} {M : List Value} {f a : Ad} {T : Tk}
theorem Res.Gd.ga (g : r.Gd) : goodA r.a.v r.a.b = true ∧ groupA r.a.v r.a.b = true := by
  rcases g.k with ⟨-, ht, -, he, -⟩ | ⟨-, -, h1, h2, -⟩
  · have : r.a = destA r.t := by simp only [Bool.and_eq_true] at he; simpa [eqA] using he.1
    rw [this]; exact ⟨goodA_dest ht, group_dest ht⟩
  · exact ⟨h1, h2⟩
theorem Res.Gd.t4 (g : r.Gd) (hk : r.kind = 1) (hv : r.a.v = false) : good4 r.t = true := by
  rcases g.k with ⟨-, ht, h6, -⟩ | ⟨h2, -⟩
  · unfold goodT at ht; rwa [h6, hv, if_neg (by decide)] at ht
  · omega
theorem Res.Gd.t6 (g : r.Gd) (hk : r.kind = 1) (hv : r.a.v = true) : good6 r.t = true := by
  rcases g.k with ⟨-, ht, h6, -⟩ | ⟨h2, -⟩
  · unfold goodT at ht; rwa [h6, hv, if_pos rfl] at ht
  · omega
theorem packet4_any (g : r.Gd) (hF : Few r.t) (hv : r.a.v = false) (hX : TkX D X r.t) (hD : Hp B w0 w D) : Gives Tryz.prog 35 #[.agg (fls (r.S X)).toArray] w (.string (pkB r)) := by
  obtain ⟨gA, -⟩ := g.ga
  have gF := g.gF
  have fv := g.eV.trans hv
  have e : pkB r = w4 (hopB r) (prB r) r.f r.a (alB r) (dB r) := by unfold pkB; rw [hv]; rfl
  rw [e]
  clear e
  rcases g.k with ⟨k1, -, h6, -, p0, h0, d0⟩ | ⟨k2, -, -, -, p1, p2, -, q0, q1, dz⟩
  · have ht := g.t4 k1 hv
    have hl := len4 ht hF
    have fw := Lib.hid (show ∀ W', Below w.heap.size w W' → Gives Tryz.prog 80 #[.agg (fls [.many X 26]).toArray] W' (.tuple #[.string (writeT r.t), .int .i64 0]) from fun W' hb => by
      obtain ⟨sp, sc, rp, rc, rfl, hI⟩ := hX
      obtain ⟨i1, i2⟩ := hI _ _ _ hD
      have := iWrite_any (T := r.t) (sc := sc) (rc := rc) (i1.below hb) (i2.below hb)
      rw [ht, if_pos rfl, if_pos rfl] at this
      rw [fls1]; exact this)
    have fa : ∀ w, Gives Tryz.prog 57 #[.agg (fls [.many X 26]).toArray] w (.bool (alB r)) := fun w => by
      have := alert_any (w := w) hX
      unfold alB; rwa [if_pos k1]
    have fp : ∀ w, Gives Tryz.prog 81 #[.agg (fls (pS4 0 0 1 2 (adL r.f) (adL r.a) (alB r) (writeT r.t))).toArray] w (.tuple #[.string (w4 (hopB r) (prB r) r.f r.a (alB r) (dB r)), .int .i64 0]) := fun w => by
      have := ip4Write_any (w := w) (hop := 1) (pr := 2) (al := alB r) (d := writeT r.t) (by omega) (by omega) fv hv gF gA (by omega)
      rwa [show hopB r = 1 by unfold hopB; rw [if_pos k1], show prB r = 2 by unfold prB; rw [if_pos k1, hv]; rfl, show dB r = writeT r.t by unfold dB; rw [if_pos k1, hv]; rfl]
    have oX := hX.ok
    clear hX hD g hF ht hl gA gF fv h6 hv
    refine Gives.of ?_
    have hH := Hp.refl w
    generalize w4 (hopB r) (prB r) r.f r.a (alB r) (dB r) = pk at *
    generalize alB r = al at *
    generalize writeT r.t = wr at *
    obtain ⟨kind, vlan, f, a, t, pr, hop, d, e⟩ := r
    simp only at k1 p0 h0 d0
    subst k1 p0 h0 d0
    unfold Res.S pS4 at *
    simp only at *
    have oF := adL_ok f
    have oA := adL_ok a
    unfold sdS
    generalize adL f = F at *
    generalize adL a = A at *
    go_enter Tryz.func35, Tryz.ntmps35
    go_wp2_with (first | (refine st ?_; clear hH; first | intro W g hH | intro W hH) | ((with_reducible refine callH hH ?_); refine ⟨?_, ?_, ?_⟩; rotate_left; (focus (first | (exact fw.out _ hH.below))); (clear hH; first | intro W g hH | intro W hH); ((try simp only [Act.put, pA, pB, pC]))))
    go_ret
    exact ⟨rfl, hH.below⟩
  · have fp : ∀ w, Gives Tryz.prog 81 #[.agg (fls (pS4 0 0 r.hop r.pr (adL r.f) (adL r.a) false r.d)).toArray] w (.tuple #[.string (w4 (hopB r) (prB r) r.f r.a (alB r) (dB r)), .int .i64 0]) := fun w => by
      rw [hv, if_neg (by decide)] at p1
      have := ip4Write_any (w := w) (hop := r.hop.toNat) (pr := r.pr.toNat) (al := false) (d := r.d) (by omega) (by omega) fv hv gF gA dz
      rw [Int.toNat_of_nonneg q0, Int.toNat_of_nonneg p1] at this
      rwa [show hopB r = r.hop.toNat by unfold hopB; rw [if_neg (by omega)], show prB r = r.pr.toNat by unfold prB; rw [if_neg (by omega)], show dB r = r.d by unfold dB; rw [if_neg (by omega)], show alB r = false by unfold alB; rw [if_neg (by omega)]]
    have oX := hX.ok
    clear hX hD g hF gA gF fv hv p1 p2 q0 q1 dz
    refine Gives.of ?_
    have hH := Hp.refl w
    generalize w4 (hopB r) (prB r) r.f r.a (alB r) (dB r) = pk at *
    obtain ⟨kind, vlan, f, a, t, pr, hop, d, e⟩ := r
    simp only at k2
    subst k2
    unfold Res.S pS4 at *
    simp only at *
    have oF := adL_ok f
    have oA := adL_ok a
    unfold sdS
    generalize adL f = F at *
    generalize adL a = A at *
    go_enter Tryz.func35, Tryz.ntmps35
    go_wp2_with (refine st ?_; clear hH; first | intro W g hH | intro W hH)
    go_ret
    exact ⟨rfl, hH.below⟩
theorem packet6_any (g : r.Gd) (hF : Few r.t) (hv : r.a.v = true) (hX : TkX D X r.t) (hD : Hp B w0 w D) : Gives Tryz.prog 34 #[.agg (fls (r.S X)).toArray] w (.string (pkB r)) := by
  have fv := g.eV.trans hv
  have e : pkB r = w6B (hopB r) (prB r) r.f r.a (alB r) (dB r) := by unfold pkB; rw [hv]; rfl
  rw [e]
  clear e
  rcases g.k with ⟨k1, -, h6, -, p0, h0, d0⟩ | ⟨k2, -, -, -, p1, p2, -, q0, q1, dz⟩
  · have ht := g.t6 k1 hv
    have hl := len6 (f := r.f) (t := r.a) ht hF
    have fw := Lib.hid (show ∀ W', Below w.heap.size w W' → Gives Tryz.prog 78 #[.agg (fls [.many X 26]).toArray, .agg (fls [.many (adL r.f) 17]).toArray, .agg (fls [.many (adL r.a) 17]).toArray] W' (.tuple #[.string (V.writeT r.f r.a r.t), .int .i64 0]) from fun W' hb => by
      obtain ⟨sp, sc, rp, rc, rfl, hI⟩ := hX
      obtain ⟨i1, i2⟩ := hI _ _ _ hD
      have := V.vWrite_any (T := r.t) (f := r.f) (t := r.a) (sc := sc) (rc := rc) (i1.below hb) (i2.below hb)
      unfold V.wrV at this
      rw [fv, hv, if_neg (by decide), if_pos ht] at this
      rw [fls1 (A := fls (tkS r.t sp sc rp rc))]; exact this)
    have fp : ∀ w, Gives Tryz.prog 79 #[.agg (fls (pS6 0 0 58 1 (adL r.f) (adL r.a) true (V.writeT r.f r.a r.t))).toArray] w (.tuple #[.string (w6B (hopB r) (prB r) r.f r.a (alB r) (dB r)), .int .i64 0]) := fun w => by
      have := ip6Write_any (w := w) (hop := 1) (pr := 58) (al := true) (d := V.writeT r.f r.a r.t) (by omega) (by omega) (by omega) fv hv (by omega)
      rwa [show hopB r = 1 by unfold hopB; rw [if_pos k1], show prB r = 58 by unfold prB; rw [if_pos k1, hv]; rfl, show dB r = V.writeT r.f r.a r.t by unfold dB; rw [if_pos k1, hv]; rfl, show alB r = true by unfold alB; rw [if_pos k1, h6, hv]; rfl]
    have oX := hX.ok
    clear hX hD g hF ht hl fv h6 hv
    refine Gives.of ?_
    have hH := Hp.refl w
    generalize w6B (hopB r) (prB r) r.f r.a (alB r) (dB r) = pk at *
    generalize V.writeT r.f r.a r.t = wr at *
    obtain ⟨kind, vlan, f, a, t, pr, hop, d, e⟩ := r
    simp only at k1 p0 h0 d0
    subst k1 p0 h0 d0
    unfold Res.S pS6 at *
    simp only at *
    have oF := adL_ok f
    have oA := adL_ok a
    unfold sdS
    generalize adL f = F at *
    generalize adL a = A at *
    go_enter Tryz.func34, Tryz.ntmps34
    go_wp2_with (first | (refine st ?_; clear hH; first | intro W g hH | intro W hH) | ((with_reducible refine callH hH ?_); refine ⟨?_, ?_, ?_⟩; rotate_left; (focus (first | (exact fw.out _ hH.below))); (clear hH; first | intro W g hH | intro W hH); ((try simp only [Act.put, pA, pB, pC]))))
    go_ret
    exact ⟨rfl, hH.below⟩
  · have fp : ∀ w, Gives Tryz.prog 79 #[.agg (fls (pS6 0 0 r.pr r.hop (adL r.f) (adL r.a) false r.d)).toArray] w (.tuple #[.string (w6B (hopB r) (prB r) r.f r.a (alB r) (dB r)), .int .i64 0]) := fun w => by
      rw [hv, if_pos rfl] at p1
      have := ip6Write_any (w := w) (hop := r.hop.toNat) (pr := r.pr.toNat) (al := false) (d := r.d) (by omega) (by omega) (by omega) fv hv dz
      rw [Int.toNat_of_nonneg q0, Int.toNat_of_nonneg (by omega)] at this
      rwa [show hopB r = r.hop.toNat by unfold hopB; rw [if_neg (by omega)], show prB r = r.pr.toNat by unfold prB; rw [if_neg (by omega)], show dB r = r.d by unfold dB; rw [if_neg (by omega)], show alB r = false by unfold alB; rw [if_neg (by omega)]]
    have oX := hX.ok
    clear hX hD g hF fv hv p1 p2 q0 q1 dz
    refine Gives.of ?_
    have hH := Hp.refl w
    generalize w6B (hopB r) (prB r) r.f r.a (alB r) (dB r) = pk at *
    obtain ⟨kind, vlan, f, a, t, pr, hop, d, e⟩ := r
    simp only at k2
    subst k2
    unfold Res.S pS6 at *
    simp only at *
    have oF := adL_ok f
    have oA := adL_ok a
    unfold sdS
    generalize adL f = F at *
    generalize adL a = A at *
    go_enter Tryz.func34, Tryz.ntmps34
    go_wp2_with (refine st ?_; clear hH; first | intro W g hH | intro W hH)
    go_ret
    exact ⟨rfl, hH.below⟩
end
section
variable {B : Nat} {w0 W w : World} {H D D' : HB} {X X' : List Value} {r q : Res} {M : List Value} {f a : Ad} {T : Tk} {ys : List UInt8}
theorem dB_size (g : r.Gd) (hF : Few r.t) : (dB r).size ≤ 1400 := by
  unfold dB
  rcases g.k with ⟨k1, -⟩ | ⟨k2, -, -, -, -, -, -, -, -, dz⟩
  · rw [if_pos k1]
    cases hv : r.a.v
    · have := len4 (g.t4 k1 hv) hF
      simp only [Bool.false_eq_true, if_false]; omega
    · have := len6 (f := r.f) (t := r.a) (g.t6 k1 hv) hF
      simp only [if_true]; omega
  · rw [if_neg (by omega)]; exact dz
theorem pk_size (g : r.Gd) (hF : Few r.t) : (pkB r).size ≤ 1500 := by
  have hd := dB_size g hF
  have h1 := bytesA_le r.f
  have h2 := bytesA_le r.a
  have h3 := size_toList (dB r)
  unfold pkB
  cases r.a.v
  · simp only [Bool.false_eq_true, if_false]
    unfold w4 w4L h4L t4L o4L
    rw [str_size]
    simp only [List.length_append, putL_length]
    split <;> simp only [List.length_cons, List.length_nil] <;> omega
  · simp only [if_true]
    unfold w6B w6L o6L
    rw [str_size]
    simp only [List.length_append, putL_length]
    split <;> simp only [List.length_append, putL_length, List.length_cons, List.length_nil] <;> omega
theorem fWrite_no (hg : sG r = false) (oN : OkA M 6) (hX : TkX D X r.t) (hD : Hp B w0 w D) : Gives Tryz.prog 12 #[.agg (fls (r.S X)).toArray, .agg (fls [.many M 6]).toArray] w (.tuple #[.string ⟨#[]⟩, .int .i64 2]) := by
  have fg := Lib.hid (show ∀ W', Below w.heap.size w W' → Gives Tryz.prog 31 #[.agg (fls (r.S X)).toArray] W' (.bool false) from fun W' hb => by rw [← hg]; exact fgood_any hX (hD.keep hb))
  have oX := hX.ok
  clear hX hD hg
  refine Gives.of ?_
  have hH := Hp.refl w
  obtain ⟨kind, vlan, f, a, t, pr, hop, d, e⟩ := r
  unfold Res.S at *
  simp only at *
  have oF := adL_ok f
  have oA := adL_ok a
  unfold sdS at *
  generalize adL f = F at *
  generalize adL a = A at *
  go_enter Tryz.func12, Tryz.ntmps12
  go_wp2_with (first | (refine st ?_; clear hH; first | intro W g hH | intro W hH) | ((with_reducible refine callH hH ?_); refine ⟨?_, ?_, ?_⟩; rotate_left; (focus (first | (exact fg.out _ hH.below))); (clear hH; first | intro W g hH | intro W hH); ((try simp only [Act.put, pA, pB, pC]))))
  go_ret2
  exact ⟨rfl, hH.below⟩
theorem fWrite_yes (hg : sG r = true) (hF : Few r.t) (hy : ys.length = 6) (hX : TkX D X r.t) (hD : Hp B w0 w D) : Gives Tryz.prog 12 #[.agg (fls (r.S X)).toArray, .agg (fls [.many (ys.map byteV) 6]).toArray] w (.tuple #[.string (wrB r ys), .int .i64 0]) := by
  have g := sG_gd hg
  have fg := Lib.hid (show ∀ W', Below w.heap.size w W' → Gives Tryz.prog 31 #[.agg (fls (r.S X)).toArray] W' (.bool true) from fun W' hb => by rw [← hg]; exact fgood_any hX (hD.keep hb))
  obtain ⟨gA, gG⟩ := g.ga
  have f2 : ∀ w, Gives Tryz.prog 18 #[.agg (fls [.many (adL r.a) 17]).toArray] w (.tuple #[.agg (fls [.many ((macB r.a).map byteV) 6]).toArray, .bool true]) := fun w => by
    have := aMac_any (a := r.a) (w := w)
    rw [gG, macL_is gG] at this
    rw [← rg_segs, fls1]; exact this
  have fp := Lib.hid (show ∀ W', Below w.heap.size w W' → (r.a.v = false → Gives Tryz.prog 35 #[.agg (fls (r.S X)).toArray] W' (.string (pkB r))) ∧ (r.a.v = true → Gives Tryz.prog 34 #[.agg (fls (r.S X)).toArray] W' (.string (pkB r))) from fun W' hb =>
    ⟨fun hv => packet4_any g hF hv hX (hD.keep hb), fun hv => packet6_any g hF hv hX (hD.keep hb)⟩)
  obtain ⟨n, hn⟩ : ∃ n : Nat, r.vlan = n := ⟨r.vlan.toNat, (Int.toNat_of_nonneg g.h0).symm⟩
  have hn2 := g.h1
  have ht : tyB r = 2048 ∨ tyB r = 34525 := by unfold tyB; split <;> simp
  obtain ⟨tg, e1⟩ : ∃ c, decide (0 < n) = c := ⟨_, rfl⟩
  have e2 : decide ((0 : Int) < (n : Int)) = tg := by rw [← e1]; exact bt (by omega)
  have f4 : ∀ w, Gives Tryz.prog 36 #[.agg (fls (eS ((macB r.a).map byteV) (ys.map byteV) tg 0 n (tyB r) (pkB r))).toArray] w (.tuple #[.string (wrB r ys), .int .i64 0]) := fun w => by
    have := eWrite_any (w := w) (xs := macB r.a) (vl := n) (b := pkB r) (macB_len r.a) hy (by omega) ht (pk_size g hF)
    rw [e1] at this
    unfold wrB
    rwa [show r.vlan.toNat = n by omega]
  have oM := okA_bytes (macB_len r.a)
  have oN := okA_bytes hy
  have oX := hX.ok
  have z0 := adL_0 r.a
  clear hX hD hg hF hy g gA gG ht
  refine Gives.of ?_
  have hH := Hp.refl w
  have htv : (tyB r : Int) = if r.a.v then 34525 else 2048 := by unfold tyB; split <;> rfl
  rw [htv] at f4
  generalize wrB r ys = wr at *
  generalize pkB r = pk at *
  generalize (macB r.a).map byteV = M at *
  generalize ys.map byteV = N at *
  clear htv
  obtain ⟨kind, vlan, f, a, t, pr, hop, d, e⟩ := r
  simp only at hn
  subst hn
  unfold Res.S eS at *
  simp only at *
  have oF := adL_ok f
  have oA := adL_ok a
  unfold sdS at *
  generalize adL f = F at *
  generalize adL a = A at *
  generalize a.v = av at *
  cases av
  · have fq := Lib.hid (fun W' hb => (fp.out W' hb).1 rfl)
    clear fp
    simp only [Bool.false_eq_true, if_false] at f4
    go_enter Tryz.func12, Tryz.ntmps12
    go_wp2_with (first | (refine st ?_; clear hH; first | intro W g hH | intro W hH) | ((with_reducible refine callH hH ?_); refine ⟨?_, ?_, ?_⟩; rotate_left; (focus (first | (exact fg.out _ hH.below) | (exact fq.out _ hH.below))); (clear hH; first | intro W g hH | intro W hH); ((try simp only [Act.put, pA, pB, pC]))))
    go_ret2
    exact ⟨rfl, hH.below⟩
  · have fq := Lib.hid (fun W' hb => (fp.out W' hb).2 rfl)
    clear fp
    simp only [if_true] at f4
    go_enter Tryz.func12, Tryz.ntmps12
    go_wp2_with (first | (refine st ?_; clear hH; first | intro W g hH | intro W hH) | ((with_reducible refine callH hH ?_); refine ⟨?_, ?_, ?_⟩; rotate_left; (focus (first | (exact fg.out _ hH.below) | (exact fq.out _ hH.below))); (clear hH; first | intro W g hH | intro W hH); ((try simp only [Act.put, pA, pB, pC]))))
    go_ret2
    exact ⟨rfl, hH.below⟩
end
section
variable {B : Nat} {w0 W w : World} {H D D' : HB} {X X' : List Value} {r q : Res} {M : List Value} {f a : Ad} {T : Tk} {ys : List UInt8}
theorem rfWrite_any (g : r.Gd) (hF : Few r.t) (hT : r.t.Ok) (hy : ys.length = 6) (hX : TkX D X r.t) (hD : Hp B w0 w D) : Gives Tryz.prog 15 #[.agg (fls (r.S X)).toArray, .agg (fls [.many (ys.map byteV) 6]).toArray] w (.string (wrB r ys)) := by
  obtain ⟨gA, gG⟩ := g.ga
  have f2 : ∀ w, Gives Tryz.prog 26 #[.agg (fls [.many (adL r.a) 17]).toArray] w (.tuple #[.agg (fls [.many ((macB r.a).map byteV) 6]).toArray, .bool true]) := fun w => by
    have := raMac_any (w := w) gG
    rw [macL_is gG] at this
    rw [← rg_segs, fls1]; exact this
  obtain ⟨n, hn⟩ : ∃ n : Nat, r.vlan = n := ⟨r.vlan.toNat, (Int.toNat_of_nonneg g.h0).symm⟩
  have hn2 := g.h1
  have ht : tyB r = 2048 ∨ tyB r = 34525 := by unfold tyB; split <;> simp
  obtain ⟨tg, e1⟩ : ∃ c, decide (0 < n) = c := ⟨_, rfl⟩
  have e2 : decide ((0 : Int) < (n : Int)) = tg := by rw [← e1]; exact bt (by omega)
  have f4 : ∀ w, Gives Tryz.prog 46 #[.agg (fls (eS ((macB r.a).map byteV) (ys.map byteV) tg 0 n (tyB r) (pkB r))).toArray] w (.string (wrB r ys)) := fun w => by
    have := r4Write_mac (w := w) (xs := macB r.a) (vl := n) (b := pkB r) (macB_len r.a) hy (by omega) ht (pk_size g hF)
    rw [e1] at this
    unfold wrB
    rwa [show r.vlan.toNat = n by omega]
  have oM := okA_bytes (macB_len r.a)
  have oN := okA_bytes hy
  have oX := hX.ok
  have z0 := adL_0 r.a
  have x0 := hX.c0
  have x1 := hX.c1
  have hz := dB_size g hF
  have htv : (tyB r : Int) = if r.a.v then 34525 else 2048 := by unfold tyB; split <;> rfl
  rw [htv] at f4
  clear htv ht
  have f5 : r.a.v = false → ∀ w, Gives Tryz.prog 45 #[.agg (fls (pS4 0 0 (hopB r) (prB r) (adL r.f) (adL r.a) (alB r) (dB r))).toArray] w (.string (pkB r)) := fun hv w => by
    unfold pkB
    rw [hv, if_neg (by decide)]
    refine r4Write_any ?_ ?_ hz
    · unfold hopB; rcases g.k with ⟨k1, -⟩ | ⟨k2, -, -, -, -, -, -, q0, q1, -⟩
      · rw [if_pos k1]; omega
      · rw [if_neg (by omega)]; omega
    · unfold prB; rcases g.k with ⟨k1, -⟩ | ⟨k2, -, -, -, p1, p2, -⟩
      · rw [if_pos k1]; split <;> omega
      · rw [if_neg (by omega)]; omega
  have f6 : r.a.v = true → ∀ w, Gives Tryz.prog 44 #[.agg (fls (pS6 0 0 (prB r) (hopB r) (adL r.f) (adL r.a) (alB r) (dB r))).toArray] w (.string (pkB r)) := fun hv w => by
    unfold pkB
    rw [hv, if_pos rfl]
    refine r6Write_any ?_ ?_ hz
    · unfold hopB; rcases g.k with ⟨k1, -⟩ | ⟨k2, -, -, -, -, -, -, q0, q1, -⟩
      · rw [if_pos k1]; omega
      · rw [if_neg (by omega)]; omega
    · unfold prB; rcases g.k with ⟨k1, -⟩ | ⟨k2, -, -, -, p1, p2, -⟩
      · rw [if_pos k1]; split <;> omega
      · rw [if_neg (by omega)]; omega
  have hr4 := Lib.hid (show r.kind = 1 → r.a.v = false → ∀ W', Below w.heap.size w W' → Gives Tryz.prog 43 #[.agg (fls [.many X 26]).toArray] W' (.string (dB r)) from fun k1 hv W' hb => by
    obtain ⟨sp, sc, rp, rc, rfl, hI⟩ := hX
    obtain ⟨i1, i2⟩ := hI _ _ _ hD
    unfold dB
    rw [if_pos k1, hv, if_neg (by decide), fls1]
    exact rWrite_any (g.t4 k1 hv) ⟨hT.resp, hT.every⟩ (i1.below hb) (i2.below hb))
  have hr6 := Lib.hid (show r.kind = 1 → r.a.v = true → ∀ W', Below w.heap.size w W' → Gives Tryz.prog 42 #[.agg (fls [.many X 26]).toArray, .agg (fls [.many (adL r.f) 17]).toArray, .agg (fls [.many (adL r.a) 17]).toArray] W' (.string (dB r)) from fun k1 hv W' hb => by
    obtain ⟨sp, sc, rp, rc, rfl, hI⟩ := hX
    obtain ⟨i1, i2⟩ := hI _ _ _ hD
    unfold dB
    rw [if_pos k1, hv, if_pos rfl, fls1 (A := fls (tkS r.t sp sc rp rc))]
    exact V.rWrite_any (g.t6 k1 hv) ⟨hT.resp, hT.every⟩ (i1.below hb) (i2.below hb))
  have a5 : r.kind = 1 → r.a.v = false → ∀ w, Gives Tryz.prog 45 #[.agg (fls (pS4 0 0 1 2 (adL r.f) (adL r.a) (r.t.v6 || decide (1 < r.t.ver)) (dB r))).toArray] w (.string (pkB r)) := fun k1 hv w => by
    have := f5 hv w
    rwa [show hopB r = 1 by unfold hopB; rw [if_pos k1], show prB r = 2 by unfold prB; rw [if_pos k1, hv]; rfl, show alB r = (r.t.v6 || decide (1 < r.t.ver)) by unfold alB; rw [if_pos k1]] at this
  have a6 : r.kind = 1 → r.a.v = true → ∀ w, Gives Tryz.prog 44 #[.agg (fls (pS6 0 0 58 1 (adL r.f) (adL r.a) (r.t.v6 || decide (1 < r.t.ver)) (dB r))).toArray] w (.string (pkB r)) := fun k1 hv w => by
    have := f6 hv w
    rwa [show hopB r = 1 by unfold hopB; rw [if_pos k1], show prB r = 58 by unfold prB; rw [if_pos k1, hv]; rfl, show alB r = (r.t.v6 || decide (1 < r.t.ver)) by unfold alB; rw [if_pos k1]] at this
  have b5 : r.kind = 2 → 0 ≤ r.hop → 0 ≤ r.pr → r.a.v = false → ∀ w, Gives Tryz.prog 45 #[.agg (fls (pS4 0 0 r.hop r.pr (adL r.f) (adL r.a) false r.d)).toArray] w (.string (pkB r)) := fun k2 q0 p1 hv w => by
    have := f5 hv w
    rwa [show hopB r = r.hop.toNat by unfold hopB; rw [if_neg (by omega)], show prB r = r.pr.toNat by unfold prB; rw [if_neg (by omega)], show alB r = false by unfold alB; rw [if_neg (by omega)], show dB r = r.d by unfold dB; rw [if_neg (by omega)], Int.toNat_of_nonneg q0, Int.toNat_of_nonneg p1] at this
  have b6 : r.kind = 2 → 0 ≤ r.hop → 0 ≤ r.pr → r.a.v = true → ∀ w, Gives Tryz.prog 44 #[.agg (fls (pS6 0 0 r.pr r.hop (adL r.f) (adL r.a) false r.d)).toArray] w (.string (pkB r)) := fun k2 q0 p1 hv w => by
    have := f6 hv w
    rwa [show hopB r = r.hop.toNat by unfold hopB; rw [if_neg (by omega)], show prB r = r.pr.toNat by unfold prB; rw [if_neg (by omega)], show alB r = false by unfold alB; rw [if_neg (by omega)], show dB r = r.d by unfold dB; rw [if_neg (by omega)], Int.toNat_of_nonneg q0, Int.toNat_of_nonneg p1] at this
  have hk := g.k
  clear hX hD hF hy g gA gG hz hT f5 f6
  refine Gives.of ?_
  have hH := Hp.refl w
  generalize wrB r ys = wr at *
  generalize pkB r = pk at *
  generalize dB r = db at *
  generalize (macB r.a).map byteV = M at *
  generalize ys.map byteV = N at *
  obtain ⟨kind, vlan, f, a, t, pr, hop, d, e⟩ := r
  simp only at *
  subst hn
  unfold Res.S pS4 pS6 eS at *
  simp only at *
  have oF := adL_ok f
  have oA := adL_ok a
  unfold sdS at *
  generalize adL f = F at *
  generalize adL a = A at *
  rcases hk with ⟨rfl, -, h6, -, rfl, rfl, rfl⟩ | ⟨rfl, -, -, -, p1, p2, -, q0, q1, -⟩
  · clear b5 b6
    rw [h6] at x0 a5 a6
    clear h6
    generalize t.ver = ver at *
    generalize a.v = av at *
    obtain ⟨al, hal⟩ : ∃ c, decide (1 < ver) = c := ⟨_, rfl⟩
    rw [hal] at a5 a6
    cases av
    · have F5 := a5 rfl rfl
      have R4 := Lib.hid (hr4.out rfl rfl)
      clear a5 a6 hr4 hr6
      simp only [Bool.false_or, Bool.false_eq_true, if_false] at F5 f4
      go_enter Tryz.func15, Tryz.ntmps15
      go_wp2_with (refine st ?_; clear hH; first | intro W g hH | intro W hH)
      (refine rq ?_; clear hH; intro W hH)
      go_wp2_with (refine st ?_; clear hH; first | intro W g hH | intro W hH)
      (refine rq ?_; clear hH; intro W hH)
      go_wp2_with (first | (refine st ?_; clear hH; first | intro W g hH | intro W hH) | ((with_reducible refine callH hH ?_); refine ⟨?_, ?_, ?_⟩; rotate_left; (focus (first | (exact R4.out _ hH.below))); (clear hH; first | intro W g hH | intro W hH); ((try simp only [Act.put, pA, pB, pC]))))
      go_ret
      exact ⟨rfl, hH.below⟩
    · have F6 := a6 rfl rfl
      have R6 := Lib.hid (hr6.out rfl rfl)
      clear a5 a6 hr4 hr6
      simp only [Bool.true_or, if_true] at F6 f4
      go_enter Tryz.func15, Tryz.ntmps15
      go_wp2_with (refine st ?_; clear hH; first | intro W g hH | intro W hH)
      (refine rq ?_; clear hH; intro W hH)
      go_wp2_with (refine st ?_; clear hH; first | intro W g hH | intro W hH)
      (refine rq ?_; clear hH; intro W hH)
      go_wp2_with (first | (refine st ?_; clear hH; first | intro W g hH | intro W hH) | ((with_reducible refine callH hH ?_); refine ⟨?_, ?_, ?_⟩; rotate_left; (focus (first | (exact R6.out _ hH.below))); (clear hH; first | intro W g hH | intro W hH); ((try simp only [Act.put, pA, pB, pC]))))
      go_ret
      exact ⟨rfl, hH.below⟩
  · clear a5 a6 hr4 hr6
    have p3 : 0 ≤ pr := by split at p1 <;> omega
    generalize a.v = av at *
    cases av
    · have F5 := b5 rfl q0 p3 rfl
      clear b5 b6
      simp only [Bool.false_eq_true, if_false] at f4
      go_enter Tryz.func15, Tryz.ntmps15
      go_wp2_with (refine st ?_; clear hH; first | intro W g hH | intro W hH)
      (refine rq ?_; clear hH; intro W hH)
      go_wp2_with (refine st ?_; clear hH; first | intro W g hH | intro W hH)
      go_ret
      exact ⟨rfl, hH.below⟩
    · have F6 := b6 rfl q0 p3 rfl
      clear b5 b6
      simp only [if_true] at f4
      go_enter Tryz.func15, Tryz.ntmps15
      go_wp2_with (refine st ?_; clear hH; first | intro W g hH | intro W hH)
      (refine rq ?_; clear hH; intro W hH)
      go_wp2_with (refine st ?_; clear hH; first | intro W g hH | intro W hH)
      go_ret
      exact ⟨rfl, hH.below⟩
end
end Go.Proofs.YtdnehjhijmeihaaGreat
namespace Go.Proofs.YtdnehjhijmeihaaGreat
open Go.ChangeShapes Go.WideShapes Go.ChangeAt Go.RowKit
set_option linter.unusedVariables false
set_option linter.unusedSimpArgs false
set_option maxRecDepth 20000
set_option maxHeartbeats 2000000
section
variable {r : Res} {ys : List UInt8}
theorem isF_write {f t : Ad} {T : Tk} : V.isF (V.writeT f t T) = true := by
  have hs : (V.writeT f t T).data.toList = [] ++ (putL (V.kindN T) 1 ++ (putL 0 1 ++ (putL (V.sumN f t T) 2 ++ V.restL T))) := by rw [V.write_list]; unfold V.headL; simp only [List.append_assoc, List.nil_append]
  have hz : 0 < (V.writeT f t T).size := by rw [V.write_size]; omega
  have hk : V.kindN T < 256 := by unfold V.kindN; split <;> (try split) <;> (try split) <;> omega
  have n0 : numAt (V.writeT f t T) 0 1 = V.kindN T := numAt_mid hs rfl (by omega)
  unfold V.isF
  rw [n0, decide_eq_true hz]
  unfold V.kindN
  split <;> (try split) <;> (try split) <;> rfl
theorem sayF_back (g : r.Gd) : sayF r.vlan ⟨0, r.f, r.a, prB r, hopB r, dB r, alB r⟩ = ⟨r.kind, r.vlan, r.f, r.a, r.t, r.pr, r.hop, r.d, 0⟩ := by
  rcases g.k with ⟨k1, ht, h6, he, p0, h0, d0⟩ | ⟨k2, hz, gA, gG, p1, p2, ho, q0, q1, dz⟩
  · have hal : alB r = alertT r.t := by unfold alB alertT; rw [if_pos k1]
    have tl : ∀ (pr : Int) (d : ByteArray), tlF r.t 0 r.vlan ⟨0, r.f, r.a, pr, hopB r, d, alB r⟩ = ⟨r.kind, r.vlan, r.f, r.a, r.t, r.pr, r.hop, r.d, 0⟩ := fun pr d => by
      unfold tlF tailR
      rw [if_neg (by simp)]
      show (if ((hopB r : Int) != 1 || (alertT r.t && !alB r || !(eqA r.a (destA r.t) && hereA r.f r.t))) = true then _ else _) = _
      rw [hal, he, show hopB r = 1 by unfold hopB; rw [if_pos k1], if_neg (by cases alertT r.t <;> decide), k1, p0, h0, d0]
    cases hv : r.a.v
    · have e1 : prB r = 2 := by unfold prB; rw [if_pos k1, hv]; rfl
      have e2 : dB r = writeT r.t := by unfold dB; rw [if_pos k1, hv]; rfl
      unfold sayF
      rw [if_neg (by rintro ⟨h, -⟩; exact absurd (hv.symm.trans h) (by decide)), if_pos ⟨hv, by show ((prB r : Nat) : Int) = 2; rw [e1]; rfl⟩]
      show tlF (rReadF (dB r)).1 (rReadF (dB r)).2 r.vlan _ = _
      rw [e2, back_all (g.t4 k1 hv)]
      exact tl _ _
    · have e1 : prB r = 58 := by unfold prB; rw [if_pos k1, hv]; rfl
      have e2 : dB r = V.writeT r.f r.a r.t := by unfold dB; rw [if_pos k1, hv]; rfl
      unfold sayF
      rw [if_pos ⟨hv, by show ((prB r : Nat) : Int) = 58; rw [e1]; rfl, by show V.isF (dB r) = true; rw [e2]; exact isF_write⟩]
      show tlF (V.rReadF r.f r.a (dB r)).1 (V.rReadF r.f r.a (dB r)).2 r.vlan _ = _
      rw [e2, V.back_all (g.t6 k1 hv)]
      exact tl _ _
  · have e1 : ((prB r : Nat) : Int) = r.pr := by unfold prB; rw [if_neg (by omega)]; split at p1 <;> omega
    have e2 : dB r = r.d := by unfold dB; rw [if_neg (by omega)]
    have e3 : ((hopB r : Nat) : Int) = r.hop := by unfold hopB; rw [if_neg (by omega)]; omega
    rw [e1, e2, e3]
    unfold sayF
    cases hv : r.a.v
    · rw [hv, if_neg (by decide)] at ho
      rw [if_neg (by rintro ⟨h, -⟩; cases h), if_neg (by rintro ⟨-, h⟩; have h : r.pr = 2 := h; rw [h] at ho; exact absurd ho (by decide)), k2, hz]
    · rw [hv, if_pos rfl] at ho
      rw [if_neg (by
        rintro ⟨-, h, h2⟩
        have h : r.pr = 58 := h
        have h2 : V.isF r.d = true := h2
        rw [h, h2] at ho; exact absurd ho (by decide)), if_neg (by rintro ⟨h, -⟩; cases h), k2, hz]
theorem back_frame (g : r.Gd) (hF : Few r.t) (hd : r.d.size ≤ 60) (hy : ys.length = 6) : resF (wrB r ys) = ⟨r.kind, r.vlan, r.f, r.a, r.t, r.pr, r.hop, r.d, 0⟩ ∧ (wrB r ys).size ≤ 800 := by
  obtain ⟨gA, gG⟩ := g.ga
  have hds := dB_size g hF
  have hd7 : (dB r).size ≤ 704 := by
    unfold dB
    rcases g.k with ⟨k1, -⟩ | ⟨k2, -⟩
    · rw [if_pos k1]
      cases hv : r.a.v
      · have := len4 (g.t4 k1 hv) hF
        simp only [Bool.false_eq_true, if_false]; omega
      · have := len6 (f := r.f) (t := r.a) (g.t6 k1 hv) hF
        simp only [if_true]; omega
    · rw [if_neg (by omega)]; omega
  have hv0 : ((r.vlan.toNat : Nat) : Int) = r.vlan := Int.toNat_of_nonneg g.h0
  have hv1 : r.vlan.toNat ≤ 4094 := by have := g.h1; omega
  have ht : tyB r = 2048 ∨ tyB r = 34525 := by unfold tyB; split <;> simp
  have hps := pk_size g hF
  have hpk : (pkB r).size ≤ 752 := by
    have h1 := bytesA_le r.f
    have h2 := bytesA_le r.a
    have h3 := size_toList (dB r)
    unfold pkB
    cases r.a.v
    · simp only [Bool.false_eq_true, if_false]
      unfold w4 w4L h4L t4L o4L
      rw [str_size]
      simp only [List.length_append, putL_length]
      split <;> simp only [List.length_cons, List.length_nil] <;> omega
    · simp only [if_true]
      unfold w6B w6L o6L
      rw [str_size]
      simp only [List.length_append, putL_length]
      split <;> simp only [List.length_append, putL_length, List.length_cons, List.length_nil] <;> omega
  obtain ⟨b1, b2, b3, b4, b5, b6'⟩ := backE (xs := macB r.a) (ys := ys) (vl := r.vlan.toNat) (ty := tyB r) (d := pkB r) (macB_len r.a) hy hv1 ht hps
  have hh : hopB r < 256 := by
    unfold hopB; rcases g.k with ⟨k1, -⟩ | ⟨k2, -, -, -, -, -, -, q0, q1, -⟩
    · rw [if_pos k1]; omega
    · rw [if_neg (by omega)]; omega
  have hp : prB r < 256 ∧ (r.a.v = true → 0 < prB r) := by
    unfold prB; rcases g.k with ⟨k1, -⟩ | ⟨k2, -, -, -, p1, p2, -⟩
    · rw [if_pos k1]; exact ⟨by split <;> omega, fun h => by rw [h]; decide⟩
    · rw [if_neg (by omega)]; exact ⟨by omega, fun h => by rw [h, if_pos rfl] at p1; omega⟩
  refine ⟨?_, by unfold wrB; omega⟩
  have hout : ∀ b : ByteArray, (∀ j, j < 6 → by4 b j = ((macB r.a)[j]?.getD 0).toNat) → outF b r.vlan ⟨0, r.f, r.a, prB r, hopB r, dB r, alB r⟩ = ⟨r.kind, r.vlan, r.f, r.a, r.t, r.pr, r.hop, r.d, 0⟩ := fun b hb => by
    unfold outF
    rw [if_neg (by simp), if_neg (by show ¬ groupA r.f.v r.f.b = true; rw [g.nF]; decide), if_neg (by show ¬ groupA r.a.v r.a.b = false; rw [gG]; decide)]
    rw [if_neg (by
      rintro ⟨j, hj, hn⟩
      apply hn
      rw [hb j hj]
      have hl := macB_len r.a
      rw [List.getElem?_eq_getElem (by omega)]
      exact (macB_get hj).symm)]
    exact sayF_back g
  have htv : tyB r = if r.a.v then 34525 else 2048 := rfl
  unfold resF wrB
  rw [b1, b2, b3, b4, hv0, if_neg (by simp)]
  cases hv : r.a.v
  · have fv := g.eV.trans hv
    rw [if_pos (by rw [htv, hv]; rfl), show pkB r = w4 (hopB r) (prB r) r.f r.a (alB r) (dB r) by unfold pkB; rw [hv]; rfl, back4 hh hp.1 fv hv g.gF gA hds]
    refine hout _ ?_
    rwa [show pkB r = w4 (hopB r) (prB r) r.f r.a (alB r) (dB r) by unfold pkB; rw [hv]; rfl] at b6'
  · have fv := g.eV.trans hv
    rw [if_neg (by rw [htv, hv]; decide), if_pos (by rw [htv, hv]; rfl), show pkB r = w6B (hopB r) (prB r) r.f r.a (alB r) (dB r) by unfold pkB; rw [hv]; rfl, back6 hh hp.1 (hp.2 hv) fv hv hds]
    refine hout _ ?_
    rwa [show pkB r = w6B (hopB r) (prB r) r.f r.a (alB r) (dB r) by unfold pkB; rw [hv]; rfl] at b6'
end
end Go.Proofs.YtdnehjhijmeihaaGreat
namespace Go.Proofs.YtdnehjhijmeihaaGreat
open Go.ChangeShapes Go.WideShapes Go.ChangeAt Go.RowKit
set_option linter.unusedVariables false
set_option linter.unusedSimpArgs false
set_option maxRecDepth 20000
attribute [local irreducible] wpList ByteArray.extract Int.decLt
set_option maxHeartbeats 8000000
noncomputable def sS (A B : Res) : Bool := (A.kind == B.kind) && ((A.vlan == B.vlan) && (eqA A.f B.f && (eqA A.a B.a && ((A.pr == B.pr) && ((A.hop == B.hop) && ((A.d.toList == B.d.toList) && sameT A.t B.t))))))
section
variable {B : Nat} {w0 W w : World} {H D D' : HB} {X X' : List Value} {r q : Res} {M : List Value} {f a : Ad} {T : Tk}
theorem fsame_any (h1 : TkX D X r.t) (h2 : TkX D' X' q.t) (hD : Hp B w0 w D) (hD' : Hp B w0 w D') : Gives Tryz.prog 14 #[.agg (fls (r.S X)).toArray, .agg (fls (q.S X')).toArray] w (.bool (sS r q)) := by
  have fs := Lib.hid (show ∀ W', Below w.heap.size w W' → Gives Tryz.prog 41 #[.agg (fls [.many X 26]).toArray, .agg (fls [.many X' 26]).toArray] W' (.bool (sameT r.t q.t)) from fun W' hb => by
    obtain ⟨sp, sc, rp, rc, rfl, hI⟩ := h1
    obtain ⟨sp', sc', rp', rc', rfl, hI'⟩ := h2
    obtain ⟨i1, i2⟩ := hI _ _ _ hD
    obtain ⟨j1, j2⟩ := hI' _ _ _ hD'
    rw [fls1, fls1]; exact isame_any (i1.below hb) (i2.below hb) (j1.below hb) (j2.below hb))
  have oX := h1.ok
  have oX' := h2.ok
  clear h1 h2 hD hD'
  refine Gives.of ?_
  have hH := Hp.refl w
  obtain ⟨kind, vlan, f, a, T, pr, hop, d, e⟩ := r
  obtain ⟨kind', vlan', f', a', T', pr', hop', d', e'⟩ := q
  unfold sS Res.S at *
  simp only at *
  have fe := eqA_run f f'
  have ge := eqA_run a a'
  have oF := adL_ok f
  have oA := adL_ok a
  have oF' := adL_ok f'
  have oA' := adL_ok a'
  unfold sdS
  generalize eqA f f' = c3 at *
  generalize eqA a a' = c4 at *
  generalize adL f = F at *
  generalize adL a = A at *
  generalize adL f' = F' at *
  generalize adL a' = A' at *
  obtain ⟨c1, e1⟩ : ∃ c, (kind == kind') = c := ⟨_, rfl⟩
  obtain ⟨c2, e2⟩ : ∃ c, (vlan == vlan') = c := ⟨_, rfl⟩
  obtain ⟨c5, e5⟩ : ∃ c, (pr == pr') = c := ⟨_, rfl⟩
  obtain ⟨c6, e6⟩ : ∃ c, (hop == hop') = c := ⟨_, rfl⟩
  obtain ⟨c7, e7⟩ : ∃ c, (d.toList == d'.toList) = c := ⟨_, rfl⟩
  rw [e1, e2, e5, e6, e7]
  cases c1; rotate_left; (focus (cases c2; rotate_left; (focus (cases c3; rotate_left; (focus (cases c4; rotate_left; (focus (cases c5; rotate_left; (focus (cases c6; rotate_left; (focus (cases c7))))))))))))
  all_goals go_enter Tryz.func14, Tryz.ntmps14
  all_goals go_wp2_with (first | (refine st ?_; clear hH; first | intro W g hH | intro W hH) | ((with_reducible refine callH hH ?_); refine ⟨?_, ?_, ?_⟩; rotate_left; (focus (first | (exact fs.out _ hH.below))); (clear hH; first | intro W g hH | intro W hH); ((try simp only [Act.put, pA, pB, pC]))))
  all_goals go_ret
  all_goals exact ⟨rfl, hH.below⟩
theorem rfsame2_any (h1 : TkX D X r.t) (h2 : TkX D' X' q.t) (hD : Hp B w0 w D) (hD' : Hp B w0 w D') : Gives Tryz.prog 8 #[.agg (fls (r.S X)).toArray, .agg (fls (q.S X')).toArray] w (.bool (sS r q)) := by
  have fs := Lib.hid (show ∀ W', Below w.heap.size w W' → Gives Tryz.prog 30 #[.agg (fls [.many X 26]).toArray, .agg (fls [.many X' 26]).toArray] W' (.bool (sameT r.t q.t)) from fun W' hb => by
    obtain ⟨sp, sc, rp, rc, rfl, hI⟩ := h1
    obtain ⟨sp', sc', rp', rc', rfl, hI'⟩ := h2
    obtain ⟨i1, i2⟩ := hI _ _ _ hD
    obtain ⟨j1, j2⟩ := hI' _ _ _ hD'
    rw [fls1, fls1]; exact same_any (i1.below hb) (i2.below hb) (j1.below hb) (j2.below hb))
  have oX := h1.ok
  have oX' := h2.ok
  clear h1 h2 hD hD'
  refine Gives.of ?_
  have hH := Hp.refl w
  obtain ⟨kind, vlan, f, a, T, pr, hop, d, e⟩ := r
  obtain ⟨kind', vlan', f', a', T', pr', hop', d', e'⟩ := q
  unfold sS Res.S at *
  simp only at *
  have fe := eqA_run f f'
  have ge := eqA_run a a'
  have oF := adL_ok f
  have oA := adL_ok a
  have oF' := adL_ok f'
  have oA' := adL_ok a'
  unfold sdS
  generalize eqA f f' = c3 at *
  generalize eqA a a' = c4 at *
  generalize adL f = F at *
  generalize adL a = A at *
  generalize adL f' = F' at *
  generalize adL a' = A' at *
  obtain ⟨c1, e1⟩ : ∃ c, (kind == kind') = c := ⟨_, rfl⟩
  obtain ⟨c2, e2⟩ : ∃ c, (vlan == vlan') = c := ⟨_, rfl⟩
  obtain ⟨c5, e5⟩ : ∃ c, (pr == pr') = c := ⟨_, rfl⟩
  obtain ⟨c6, e6⟩ : ∃ c, (hop == hop') = c := ⟨_, rfl⟩
  obtain ⟨c7, e7⟩ : ∃ c, (d.toList == d'.toList) = c := ⟨_, rfl⟩
  rw [e1, e2, e5, e6, e7]
  cases c1; rotate_left; (focus (cases c2; rotate_left; (focus (cases c3; rotate_left; (focus (cases c4; rotate_left; (focus (cases c5; rotate_left; (focus (cases c6; rotate_left; (focus (cases c7))))))))))))
  all_goals go_enter Tryz.func8, Tryz.ntmps8
  all_goals go_wp2_with (first | (refine st ?_; clear hH; first | intro W g hH | intro W hH) | ((with_reducible refine callH hH ?_); refine ⟨?_, ?_, ?_⟩; rotate_left; (focus (first | (exact fs.out _ hH.below))); (clear hH; first | intro W g hH | intro W hH); ((try simp only [Act.put, pA, pB, pC]))))
  all_goals go_ret
  all_goals exact ⟨rfl, hH.below⟩
end
section
variable {H : Type} {enc : TypeId × Value → H} {W : World} {base : Nat} {held : Bool}
theorem open_agg_arr {P : Program} {w : World} {r : Reach} {base : Nat} {t e : TypeId} {n : Nat} {ts : List TypeId} {v : Value} (hu : P.underlying t = some (.array n e)) (ht : P.cellTypes P.depth t = some ts) (hn : P.cellsOf t = ts.length) (h : Value.okWide P w r base t v) :
    ∃ cs : List Value, v = .agg cs.toArray ∧ CellsAll P w r base ts cs := by
  unfold Value.okWide at h
  rw [hu] at h
  obtain ⟨cs, rfl, hs, hr⟩ := h
  exact ⟨cs.toList, by simp, cellsAll_row ht (hs.trans hn) hr⟩
theorem mac_open {v : Value} {d : DataW H} {p : List MemPlace} {base' : Nat} (g : Value.okWide Tryz.prog W .any base' 40 v) (h : DataW.Trod enc Tryz.prog W base (fun _ => true) held 40 v d p) :
    ∃ ys : List UInt8, ys.length = 6 ∧ v = .agg (fls [.many (ys.map byteV) 6]).toArray := by
  obtain ⟨cs, rfl, hc⟩ := open_agg_arr (ts := List.replicate 6 5) Tryz.underlying40 (by kernel_rfl) (by kernel_rfl) g
  obtain ⟨fuel0, hf0⟩ := h
  have hf0 : DataW.trod enc Tryz.prog W base (fun _ => true) held fuel0 40 cs = some (d, p) := by simpa [Value.cells] using hf0
  obtain ⟨xs, m, _, _, hl, hxl, hg⟩ := DataW.trod_array Tryz.underlying40 hf0
  have hl : cs.length = 6 := by rw [hl]; kernel_rfl
  have cu : Tryz.prog.cellsOf 5 = 1 := by kernel_rfl
  have each : ∀ i, i < 6 → ∃ k : UInt8, cs[i]? = some (byteV k) := fun i hi => by
    have hgi := hg i hi
    rw [cu, List.getElem?_eq_getElem (show i < xs.length by omega), Nat.mul_one] at hgi
    obtain ⟨k, hk, _, hw⟩ := DataW.trod_int Tryz.underlying5 hgi
    have h1 := one_at hk
    have hb : 0 ≤ k ∧ k ≤ 255 := by
      simp only [Lit.wf, Bool.and_eq_true, decide_eq_true_eq] at hw
      exact hw
    refine ⟨UInt8.ofNat k.toNat, ?_⟩
    rw [h1]
    unfold byteV
    have e : ((UInt8.ofNat k.toNat).toNat : Int) = k := by rw [UInt8.toNat_ofNat', Nat.mod_eq_of_lt (by omega)]; omega
    rw [e]
  obtain ⟨a, ha⟩ := each 0 (by omega)
  obtain ⟨b, hb⟩ := each 1 (by omega)
  obtain ⟨c, hc'⟩ := each 2 (by omega)
  obtain ⟨d', hd⟩ := each 3 (by omega)
  obtain ⟨e, he⟩ := each 4 (by omega)
  obtain ⟨f, hf⟩ := each 5 (by omega)
  refine ⟨[a, b, c, d', e, f], rfl, ?_⟩
  have : cs = [a, b, c, d', e, f].map byteV := by
    refine List.ext_getElem? fun i => ?_
    match i with
    | 0 => exact ha
    | 1 => exact hb
    | 2 => exact hc'
    | 3 => exact hd
    | 4 => exact he
    | 5 => exact hf
    | i + 6 => rw [List.getElem?_eq_none (by omega), List.getElem?_eq_none (by simp)]
  rw [fls1, ← this]
theorem sd_split {cs : List Value} (h : cs.length = 65) : cs = cs.take 1 ++ ((cs.drop 1).take 1 ++ ((cs.drop 2).take 17 ++ ((cs.drop 19).take 17 ++ ((cs.drop 36).take 26 ++ ((cs.drop 62).take 1 ++ ((cs.drop 63).take 1 ++ (cs.drop 64).take 1)))))) := by
  have s : ∀ i n, cs.drop i = (cs.drop i).take n ++ cs.drop (i + n) := fun i n => by rw [← List.drop_drop, List.take_append_drop]
  have s0 : cs = cs.take 1 ++ cs.drop 1 := (List.take_append_drop 1 cs).symm
  have e : (cs.drop 64).take 1 = cs.drop 64 := List.take_of_length_le (by simp; omega)
  conv => lhs; rw [s0, s 1 1, s 2 17, s 19 17, s 36 26, s 62 1, s 63 1]
  rw [e]
theorem sd_open {v : Value} {d : DataW H} {p : List MemPlace} {base' : Nat} (g : Value.okWide Tryz.prog W .any base' 31 v) (h : DataW.Trod enc Tryz.prog W base (fun _ => true) held 31 v d p) :
    ∃ (r : Res) (sp rp : Option Addr) (sc rc : Nat), v = .agg (fls (r.S (fls (tkS r.t sp sc rp rc)))).toArray ∧ AdsAt W sp r.t.src ∧ RcsAt W rp r.t.recs ∧ r.t.Ok := by
  obtain ⟨cs, rfl, hc⟩ := open_agg_struct (ts := [3, 3] ++ ((4 :: List.replicate 16 5) ++ ((4 :: List.replicate 16 5) ++ (([4, 3, 3, 3] ++ (4 :: List.replicate 16 5) ++ [4, 3, 3, 26, 27]) ++ [3, 3, 9])))) Tryz.underlying31 (by kernel_rfl) (by kernel_rfl) g
  obtain ⟨fuel0, hf0⟩ := h
  have hf0 : DataW.trod enc Tryz.prog W base (fun _ => true) held fuel0 31 cs = some (d, p) := by simpa [Value.cells] using hf0
  obtain ⟨xs, n, _, _, hl, hxl, hf⟩ := DataW.trod_struct Tryz.underlying31 hf0
  have hl : cs.length = 65 := by rw [hl]; kernel_rfl
  have hxl : xs.length = 8 := hxl
  have ci : Tryz.prog.cellsOf 3 = 1 := by kernel_rfl
  have ca : Tryz.prog.cellsOf 25 = 17 := by kernel_rfl
  have ct : Tryz.prog.cellsOf 29 = 26 := by kernel_rfl
  have cs' : Tryz.prog.cellsOf 9 = 1 := by kernel_rfl
  have g0 := hf 0 _ rfl
  have g1 := hf 1 _ rfl
  have g2 := hf 2 _ rfl
  have g3 := hf 3 _ rfl
  have g4 := hf 4 _ rfl
  have g5 := hf 5 _ rfl
  have g6 := hf 6 _ rfl
  have g7 := hf 7 _ rfl
  change DataW.trod enc Tryz.prog W base (fun _ => true) held n 3 ((cs.drop 0).take (Tryz.prog.cellsOf 3)) = xs[0]? at g0
  change DataW.trod enc Tryz.prog W base (fun _ => true) held n 3 ((cs.drop 1).take (Tryz.prog.cellsOf 3)) = xs[1]? at g1
  change DataW.trod enc Tryz.prog W base (fun _ => true) held n 25 ((cs.drop 2).take (Tryz.prog.cellsOf 25)) = xs[2]? at g2
  change DataW.trod enc Tryz.prog W base (fun _ => true) held n 25 ((cs.drop 19).take (Tryz.prog.cellsOf 25)) = xs[3]? at g3
  change DataW.trod enc Tryz.prog W base (fun _ => true) held n 29 ((cs.drop 36).take (Tryz.prog.cellsOf 29)) = xs[4]? at g4
  change DataW.trod enc Tryz.prog W base (fun _ => true) held n 3 ((cs.drop 62).take (Tryz.prog.cellsOf 3)) = xs[5]? at g5
  change DataW.trod enc Tryz.prog W base (fun _ => true) held n 3 ((cs.drop 63).take (Tryz.prog.cellsOf 3)) = xs[6]? at g6
  change DataW.trod enc Tryz.prog W base (fun _ => true) held n 9 ((cs.drop 64).take (Tryz.prog.cellsOf 9)) = xs[7]? at g7
  rw [ci, List.getElem?_eq_getElem (show 0 < xs.length by omega)] at g0
  rw [ci, List.getElem?_eq_getElem (show 1 < xs.length by omega)] at g1
  rw [ca, List.getElem?_eq_getElem (show 2 < xs.length by omega)] at g2
  rw [ca, List.getElem?_eq_getElem (show 3 < xs.length by omega)] at g3
  rw [ct, List.getElem?_eq_getElem (show 4 < xs.length by omega)] at g4
  rw [ci, List.getElem?_eq_getElem (show 5 < xs.length by omega)] at g5
  rw [ci, List.getElem?_eq_getElem (show 6 < xs.length by omega)] at g6
  rw [cs', List.getElem?_eq_getElem (show 7 < xs.length by omega)] at g7
  obtain ⟨k0, h0, _, w0⟩ := DataW.trod_int Tryz.underlying3 g0
  obtain ⟨k1, h1, _, w1⟩ := DataW.trod_int Tryz.underlying3 g1
  obtain ⟨f, h2⟩ := ad_trod g2
  obtain ⟨a, h3⟩ := ad_trod g3
  obtain ⟨T, sp, rp, sc, rc, h4, q1, q2, q3, _⟩ := tk_trod g4
  obtain ⟨k5, h5, _, w5⟩ := DataW.trod_int Tryz.underlying3 g5
  obtain ⟨k6, h6, _, w6⟩ := DataW.trod_int Tryz.underlying3 g6
  obtain ⟨s, h7, _⟩ := DataW.trod_string Tryz.underlying9 g7
  refine ⟨⟨k0, k1, f, a, T, k5, k6, s, 0⟩, sp, rp, sc, rc, ?_, q1, q2, q3⟩
  rw [List.drop_zero] at h0
  have e : cs = fls (Res.S ⟨k0, k1, f, a, T, k5, k6, s, 0⟩ (fls (tkS T sp sc rp rc))) := by
    rw [sd_split hl, h0, h1, h2, h3, h4, h5, h6, h7]
    rfl
  rw [e]
end
def fewS (r : Res) : Res := ⟨r.kind, r.vlan, r.f, r.a, fewT r.t, r.pr, r.hop, r.d.extract 0 60, 0⟩
section
variable {B : Nat} {w0 W w : World} {H D D' : HB} {X X' : List Value} {r q : Res} {Q : Ending → World → Prop}
def TkM (w : World) (X : List Value) (T : Tk) : Prop := ∀ W', Below w.heap.size w W' → ∃ sp sc rp rc, X = fls (tkS T sp sc rp rc) ∧ AdsAt W' sp T.src ∧ RcsAt W' rp T.recs
theorem TkM.of {T : Tk} (hX : TkX D X T) (hD : Hp B w0 w D) : TkM w X T := fun W' hb => by
  obtain ⟨sp, sc, rp, rc, rfl, hI⟩ := hX
  exact ⟨sp, sc, rp, rc, rfl, hI _ _ _ (hD.keep hb)⟩
theorem TkM.arg {T : Tk} {sp rp : Option Addr} {sc rc : Nat} (h1 : AdsAt w sp T.src) (h2 : RcsAt w rp T.recs) : TkM w (fls (tkS T sp sc rp rc)) T := fun W' hb => ⟨sp, sc, rp, rc, rfl, h1.below hb, h2.below hb⟩
theorem sfew_any (hX : TkM w X r.t) (oX : OkA X 26) : Calls Tryz.prog 11 #[.agg (fls (r.S X)).toArray] w fun E w' => ∃ X' D', E = .returned (.agg (fls ((fewS r).S X')).toArray) ∧ Made w w' D' ∧ TkX D' X' (fewT r.t) := by
  have HF := Lib.hid (show ∀ (W' : World) (H : HB) (Q : Ending → World → Prop), Hp w.heap.size w W' H → (∀ W'' X' D', Hid (TkX D' X' (fewT r.t)) → Hid (∀ r ∈ D', r.2.2.1 = true) → Hp w.heap.size w W'' (H ++ D') → Q (.returned (.agg (fls [.many X' 26]).toArray)) W'') → Calls Tryz.prog 33 #[.agg (fls [.many X 26]).toArray] W' Q from fun W' H Q hH hQ => by
    obtain ⟨sp, sc, rp, rc, rfl, i1, i2⟩ := hX _ hH.below
    rw [fls1]
    refine (few_any i1 i2).mono fun _ _ ⟨sp, sc, rp, rc, D', he, hm, hr⟩ => ?_
    subst he
    have := hQ _ (fls (tkS (fewT r.t) sp sc rp rc)) D' (Lib.hid ⟨sp, sc, rp, rc, rfl, hr⟩) (Lib.hid hm.2) (hH.join hm)
    rwa [fls1] at this)
  clear hX
  obtain ⟨kind, vlan, f, a, T, pr, hop, d, e⟩ := r
  have fc : ∀ w, Gives Tryz.prog 5 #[.string d, .int .i64 60] w (.string (d.extract 0 60)) := fun w => cut_any
  unfold fewS Res.S at *
  simp only at *
  have oF := adL_ok f
  have oA := adL_ok a
  have oZ := TZ_ok
  unfold sdS at *
  generalize d.extract 0 60 = d2 at *
  generalize adL f = F at *
  generalize adL a = A at *
  have hH := Hp.refl w
  go_enter Tryz.func11, Tryz.ntmps11
  go_wp2_with (refine st ?_; clear hH; first | intro W g hH | intro W hH)
  ((with_reducible refine regKN [7, 9] hH (SubH.refl) (by kernel_rfl) ?_); (clear hH; intro W hH); refine kt [0, 3] ?_; refine kl [1, 4] ?_; refine ko 2 ?_; go_wp2_with (first | ((go_at_call 33; refine HF.out _ _ _ hH ?_; (clear hH; intro W X2 D2 hX2 hO hH); have oX2 := TkX.ok hX2.out; (try simp only [List.cons_append, List.nil_append] at hH); ((try simp only [Act.put, pA, pB, pC])))) | (refine st ?_; clear hH; first | intro W g hH | intro W hH)); refine ke ?_; refine kt [6] ?_; refine ko 5 ?_; go_wp2_with (first | ((go_at_call 33; refine HF.out _ _ _ hH ?_; (clear hH; intro W X2 D2 hX2 hO hH); have oX2 := TkX.ok hX2.out; (try simp only [List.cons_append, List.nil_append] at hH); ((try simp only [Act.put, pA, pB, pC])))) | (refine st ?_; clear hH; first | intro W g hH | intro W hH)); refine ke ?_; refine ko 7 ?_; go_wp2_with (first | ((go_at_call 33; refine HF.out _ _ _ hH ?_; (clear hH; intro W X2 D2 hX2 hO hH); have oX2 := TkX.ok hX2.out; (try simp only [List.cons_append, List.nil_append] at hH); ((try simp only [Act.put, pA, pB, pC])))) | (refine st ?_; clear hH; first | intro W g hH | intro W hH)); refine kz ?_; refine kt [8] ?_; refine ko 9 ?_; go_wp2_with (first | ((go_at_call 33; refine HF.out _ _ _ hH ?_; (clear hH; intro W X2 D2 hX2 hO hH); have oX2 := TkX.ok hX2.out; (try simp only [List.cons_append, List.nil_append] at hH); ((try simp only [Act.put, pA, pB, pC])))) | (refine st ?_; clear hH; first | intro W g hH | intro W hH)); refine kz ?_; refine hk_endN (by kernel_rfl) ?_)
  go_wp2_with (refine st ?_; clear hH; first | intro W g hH | intro W hH)
  (refine iRet Tryz.results11 tab_ok rfl rfl hH ?_; refine ⟨_, _, rfl, rfl, rfl, ?_⟩)
  exact ⟨X2, D2, rfl, ⟨hH.sub SubI.h, hO⟩, hX2⟩
theorem fGoodW_any (hX : TkX D X r.t) (hD : Hp B w0 w D) : Gives Tryz.prog 9 #[.agg (fls (r.S X)).toArray] w (.bool (sG r)) := by
  have fd := Lib.hid (show ∀ W', Below w.heap.size w W' → Gives Tryz.prog 31 #[.agg (fls (r.S X)).toArray] W' (.bool (sG r)) from fun W' hb => fgood_any hX (hD.keep hb))
  have oX := hX.ok
  clear hX hD
  generalize sG r = gd at *
  refine Gives.of ?_
  have hH := Hp.refl w
  obtain ⟨kind, vlan, f, a, t, pr, hop, d, e⟩ := r
  unfold Res.S at *
  simp only at *
  have oF := adL_ok f
  have oA := adL_ok a
  unfold sdS at *
  generalize adL f = F at *
  generalize adL a = A at *
  go_enter Tryz.func9, Tryz.ntmps9
  go_wp2_with (first | (refine st ?_; clear hH; first | intro W g hH | intro W hH) | ((with_reducible refine callH hH ?_); refine ⟨?_, ?_, ?_⟩; rotate_left; (focus (first | (exact fd.out _ hH.below))); (clear hH; first | intro W g hH | intro W hH); ((try simp only [Act.put, pA, pB, pC]))))
  go_ret
  exact ⟨rfl, hH.below⟩
theorem sS_self (r : Res) : sS r r = true := by unfold sS; simp [eqA, sameT_self]
theorem fewT_twice (T : Tk) : fewT (fewT T) = fewT T := by
  unfold fewT
  simp only [List.take_take, Nat.min_self, Tk.mk.injEq, true_and, List.map_take, List.map_map]
  congr 1
  refine List.map_congr_left fun x _ => ?_
  show fewR (fewR x) = fewR x
  unfold fewR; simp [List.take_take]
theorem fewS_twice (r : Res) : fewS (fewS r) = fewS r := by
  unfold fewS
  simp only [fewT_twice]
  congr 1
  apply data_inj
  rw [toList_extract, toList_extract]
  simp [List.take_take]
theorem fewS_ok (h : r.t.Ok) : (fewS r).t.Ok := ⟨h.ver, h.kind, h.resp, h.rob, h.every, fun x hx => by
  obtain ⟨y, h1, rfl⟩ := List.mem_map.1 hx
  exact h.recs y (List.mem_of_mem_take h1)⟩
def aG : Ad := ⟨false, [239, 1, 2, 3, 0, 0, 0, 0, 0, 0, 0, 0, 0, 0, 0, 0], rfl⟩
def aF : Ad := ⟨false, [10, 0, 0, 1, 0, 0, 0, 0, 0, 0, 0, 0, 0, 0, 0, 0], rfl⟩
def tk0 : Tk := ⟨false, 2, 2, 0, aG, false, 0, 0, [], []⟩
def TK0 : List Value := fls (tkS tk0 none 0 none 0)
def r0 : Res := ⟨1, 5, aF, aG, tk0, 0, 0, ⟨#[]⟩, 0⟩
def mF : List UInt8 := [2, 0, 0, 0, 0, 0]
theorem tx0 (D : HB) : TkX D TK0 tk0 := ⟨none, 0, none, 0, rfl, fun _ _ _ _ => ⟨AdsAt.nil, RcsAt.nil⟩⟩
theorem good_tk0 : good4 tk0 = true := by kernel_rfl
theorem sG0 : sG r0 = true := by
  have h : tG r0 = true := by
    unfold tG
    rw [show goodT r0.t = true from good_tk0]
    decide +kernel
  unfold sG
  rw [show (r0.kind == 1) = true from rfl, if_pos rfl, h]
  decide +kernel
theorem few0 : Few r0.t := ⟨by decide, by decide, fun x hx => absurd hx List.not_mem_nil⟩
theorem size0 : (wrB r0 mF).size = 50 := by kernel_rfl
theorem resF0 : resF (wrB r0 mF) = r0 ∧ (wrB r0 mF).size ≤ 800 := back_frame (sG_gd sG0) few0 (by decide) rfl
theorem join0 : Gives Tryz.prog 32 #[] w (.agg (fls (sdS 1 5 (adL aF) (adL aG) TK0 0 0 ⟨#[]⟩)).toArray) := by
  refine Gives.of ?_
  have hH := Hp.refl w
  go_enter Tryz.func32, Tryz.ntmps32
  go_wp2_with (refine st ?_; clear hH; first | intro W g hH | intro W hH)
  (refine iRet Tryz.results32 tab_ok rfl rfl hH ?_; refine ⟨_, _, rfl, rfl, rfl, ?_⟩)
  exact ⟨by kernel_rfl, hH.below⟩
theorem lives10 : Gives Tryz.prog 10 #[] w (.bool true) := by
  refine Gives.of ?_
  have oG := adL_ok aG
  have oF := adL_ok aF
  have oT := (tx0 []).ok
  have hs := size0
  have f1 : ∀ w, Gives Tryz.prog 32 #[] w (.agg (fls (sdS 1 5 (adL aF) (adL aG) TK0 0 0 ⟨#[]⟩)).toArray) := fun w => join0
  have f2 : ∀ w, Gives Tryz.prog 12 #[.agg (fls (sdS 1 5 (adL aF) (adL aG) TK0 0 0 ⟨#[]⟩)).toArray, .agg (fls [.one (.int .u8 2), .one (.int .u8 0), .one (.int .u8 0), .one (.int .u8 0), .one (.int .u8 0), .one (.int .u8 0)]).toArray] w (.tuple #[.string (wrB r0 mF), .int .i64 0]) := fun w => fWrite_yes (r := r0) (ys := mF) sG0 few0 rfl (tx0 []) (Hp.refl w)
  have FR := Lib.hid (show ∀ (W : World) (H : HB) (Q : Ending → World → Prop), Hp w.heap.size w W H → (∀ W' X D, Hid (OkA X 26) → Hid (CellA X 2 (.int .i64 2)) → Hp w.heap.size w W' (H ++ D) → Q (.returned (.tuple #[.agg (fls (sdS 1 5 (adL aF) (adL aG) X 0 0 ⟨#[]⟩)).toArray, .int .i64 0])) W') → Calls Tryz.prog 6 #[.string (wrB r0 mF)] W Q from fun W H Q hH hQ => by
    have := fread_any (b := wrB r0 mF) (w := W) resF0.2
    rw [resF0.1] at this
    exact this.mono fun _ _ ⟨X, D, he, hm, hr⟩ => by subst he; exact hQ _ X D (Lib.hid hr.ok) (Lib.hid hr.c2) (hH.join hm))
  unfold sdS at *
  generalize TK0 = T at *
  generalize adL aG = A at *
  generalize adL aF = F at *
  generalize wrB r0 mF = b at *
  have hH := Hp.refl w
  go_enter Tryz.func10, Tryz.ntmps10
  go_wp2_with (first | ((go_at_call 6; refine FR.out _ _ _ hH ?_; (clear hH; intro W X D hX hc hH); have oX := hX.out; have cX := hc.out; (try simp only [List.cons_append, List.nil_append] at hH); ((try simp only [Act.put, pA, pB, pC])))) | (refine st ?_; clear hH; first | intro W g hH | intro W hH))
  go_ret
  exact ⟨rfl, hH.below⟩
end
end Go.Proofs.YtdnehjhijmeihaaGreat
