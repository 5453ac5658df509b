/-
  FrameReads: what any frame says, or why it says nothing. No condition.
-/
import Derived.Test.YtdnehjhijmeihaaGreatQJk
import Derived.Test.YtdnehjhijmeihaaGreatQGx
import Derived.Test.YtdnehjhijmeihaaGreatRows
namespace Go.Proofs.YtdnehjhijmeihaaGreat
-- %in
open Go.ChangeShapes Go.WideShapes Go.ChangeAt Go.RowKit
set_option linter.unusedVariables false
set_option linter.unusedSimpArgs false
set_option maxRecDepth 20000
set_option maxHeartbeats 4000000
attribute [local irreducible] wpList ByteArray.extract Int.decLt

section
variable {B : Nat} {w0 W w : World} {H D D' : HB} {X X' : List Value} {pr hop vlan kind : Int} {d b : ByteArray} {T : Tk} {f a : Ad} {r : Res}
theorem rfSame_any (h1 : TkX D X T) (h2 : TkX D' X' T) (hD : Hp B w0 w D) (hD' : Hp B w0 w D') : Gives Tryz.prog 8 #[.agg (fls (sdS kind vlan (adL f) (adL a) X pr hop d)).toArray, .agg (fls (sdS kind vlan (adL f) (adL a) X' pr hop d)).toArray] w (.bool true) := by
  have fs := Lib.hid (show ∀ W', Below w.heap.size w W' → Gives Tryz.prog 30 #[.agg (fls [.many X 26]).toArray, .agg (fls [.many X' 26]).toArray] W' (.bool true) from fun W' hb => by
    obtain ⟨sp, sc, rp, rc, rfl, hI⟩ := h1
    obtain ⟨sp', sc', rp', rc', rfl, hI'⟩ := h2
    obtain ⟨i1, i2⟩ := hI _ _ _ hD
    obtain ⟨j1, j2⟩ := hI' _ _ _ hD'
    have := same_any (A := T) (B := T) (sc := sc) (rc := rc) (sc' := sc') (rc' := rc') (i1.below hb) (i2.below hb) (j1.below hb) (j2.below hb)
    rw [sameT_self] at this
    rw [fls1, fls1]; exact this)
  have oX := h1.ok
  have oX' := h2.ok
  clear h1 h2 hD hD'
  refine Gives.of ?_
  have hH := Hp.refl w
  have fe : ∀ w, (binOp .eql 25 (.agg (fls [.many (adL f) 17]).toArray) (.agg (fls [.many (adL f) 17]).toArray)).run Tryz.prog w = .ok (.bool true) w := fun w => by
    have := eqA_run f f w
    rwa [show eqA f f = true by simp [eqA]] at this
  have ge : ∀ w, (binOp .eql 25 (.agg (fls [.many (adL a) 17]).toArray) (.agg (fls [.many (adL a) 17]).toArray)).run Tryz.prog w = .ok (.bool true) w := fun w => by
    have := eqA_run a a w
    rwa [show eqA a a = true by simp [eqA]] at this
  have oF := adL_ok f
  have oA := adL_ok a
  unfold sdS
  generalize adL f = F at *
  generalize adL a = A at *
  go_enter Tryz.func8, Tryz.ntmps8
  go_wp2_with (first | (refine st ?_; clear hH; (first | intro W g hH | intro W hH)) | ((with_reducible refine callH hH ?_); refine ⟨?_, ?_, ?_⟩; rotate_left; (focus (first | (exact fs.out _ hH.below))); clear hH; (first | intro W g hH | intro W hH); ((try simp only [Act.put, pA, pB, pC]))))
  go_ret
  exact ⟨rfl, hH.below⟩
theorem goodD_any (oX : OkA X 26) (gA : goodA a.v a.b = true) (nA : groupA a.v a.b = true) (hp : (if a.v then 1 else 0) ≤ pr) (hp2 : pr ≤ 255) (ho : (if a.v then pr = 58 → V.isF d = false else (pr == 2) = false)) (h0 : 0 ≤ hop) (h1 : hop ≤ 255) (hd : d.size ≤ 1400) :
    Gives Tryz.prog 75 #[.agg (fls (sdS 2 vlan (adL f) (adL a) X pr hop d)).toArray] w (.bool true) := by
  refine Gives.of ?_
  have hH := Hp.refl w
  have f1 : ∀ w, Gives Tryz.prog 71 #[.agg (fls [.many (adL a) 17]).toArray] w (.bool true) := fun w => by rw [← rg_segs, ← gA]; exact aGood_any a.h
  have f2 : ∀ w, Gives Tryz.prog 19 #[.agg (fls [.many (adL a) 17]).toArray] w (.bool true) := fun w => by rw [← rg_segs, ← nA]; exact aGroup_any a.h
  have fi : ∀ w, Gives Tryz.prog 109 #[.string d] w (.bool (V.isF d)) := fun w => V.vIs_any
  have z0 := adL_0 a
  have oF := adL_ok f
  have oA := adL_ok a
  unfold sdS
  generalize adL f = F at *
  generalize adL a = A at *
  generalize V.isF d = is at *
  have e2 : decide (pr ≤ 255) = true := decide_eq_true hp2
  have e3 : decide (0 ≤ hop) = true := decide_eq_true h0
  have e4 : decide (hop ≤ 255) = true := decide_eq_true h1
  have e5 : decide ((d.size : Int) ≤ 1400) = true := decide_eq_true (by omega)
  clear gA nA
  generalize a.v = v at *
  cases v
  · have hp : 0 ≤ pr := hp
    have ho : (pr == 2) = false := ho
    have e1 : decide (0 ≤ pr) = true := decide_eq_true hp
    go_enter Tryz.func75, Tryz.ntmps75
    go_wp2_with (first | (refine st ?_; clear hH; (first | intro W g hH | intro W hH)))
    (refine rq ?_; clear hH; intro W hH)
    go_wp2_with (first | (refine st ?_; clear hH; (first | intro W g hH | intro W hH)))
    go_ret
    exact ⟨rfl, hH.below⟩
  · have hp : 1 ≤ pr := hp
    have ho : pr = 58 → is = false := ho
    have e1 : decide (1 ≤ pr) = true := decide_eq_true hp
    obtain ⟨c, hc⟩ : ∃ c, (pr == 58) = c := ⟨_, rfl⟩
    obtain ⟨c2, hc2⟩ : ∃ c, (pr == 2) = c := ⟨_, rfl⟩
    have ho2 : c = true → is = false := fun h => ho (by rw [h] at hc; simpa using hc)
    clear ho
    cases c
    · clear ho2
      go_enter Tryz.func75, Tryz.ntmps75
      go_wp2_with (first | (refine st ?_; clear hH; (first | intro W g hH | intro W hH)))
      (refine rq ?_; clear hH; intro W hH)
      go_wp2_with (first | (refine st ?_; clear hH; (first | intro W g hH | intro W hH)))
      go_ret
      exact ⟨rfl, hH.below⟩
    · obtain rfl := ho2 rfl
      clear ho2
      go_enter Tryz.func75, Tryz.ntmps75
      go_wp2_with (first | (refine st ?_; clear hH; (first | intro W g hH | intro W hH)))
      (refine rq ?_; clear hH; intro W hH)
      go_wp2_with (first | (refine st ?_; clear hH; (first | intro W g hH | intro W hH)))
      go_ret
      exact ⟨rfl, hH.below⟩
theorem isameZ (hX : TkX D X Tk.z) (hD : Hp B w0 w D) : Gives Tryz.prog 41 #[.agg (fls [.many X 26]).toArray, .agg (fls [.many TZ 26]).toArray] w (.bool true) := by
  obtain ⟨sp, sc, rp, rc, rfl, hI⟩ := hX
  obtain ⟨i1, i2⟩ := hI _ _ _ hD
  have := isame_any (w := w) (A := Tk.z) (B := Tk.z) (sp := sp) (rp := rp) (sp' := none) (rp' := none) (sc := sc) (rc := rc) (sc' := 0) (rc' := 0) i1 i2 AdsAt.nil RcsAt.nil
  rw [sameT_self, ← TZ_is] at this
  rw [fls1, fls1]; exact this
theorem goodS2_any (hX : TkX D X Tk.z) (hD : Hp B w0 w D) (gF : goodA f.v f.b = true) (nF : groupA f.v f.b = false) (eV : f.v = a.v) (h0 : 0 ≤ vlan) (h1 : vlan ≤ 4094) (fd : ∀ w, Gives Tryz.prog 75 #[.agg (fls (sdS 2 vlan (adL f) (adL a) X pr hop d)).toArray] w (.bool true)) :
    Gives Tryz.prog 31 #[.agg (fls (sdS 2 vlan (adL f) (adL a) X pr hop d)).toArray] w (.bool true) := by
  have fz := Lib.hid (fun W' (hb : Below w.heap.size w W') => isameZ hX (hD.keep hb))
  have oX := hX.ok
  clear hX hD
  refine Gives.of ?_
  have hH := Hp.refl w
  have f1 : ∀ w, Gives Tryz.prog 71 #[.agg (fls [.many (adL f) 17]).toArray] w (.bool true) := fun w => by rw [← rg_segs, ← gF]; exact aGood_any f.h
  have f2 : ∀ w, Gives Tryz.prog 19 #[.agg (fls [.many (adL f) 17]).toArray] w (.bool false) := fun w => by rw [← rg_segs, ← nF]; exact aGroup_any f.h
  have y0 := adL_0 f
  have z0 := adL_0 a
  have oF := adL_ok f
  have oA := adL_ok a
  have oZ := TZ_ok
  rw [← eV] at z0
  unfold sdS at *
  unfold TZ at *
  generalize adL f = F at *
  generalize adL a = A at *
  generalize f.v = v at *
  have e1 : decide (vlan < 0) = false := decide_eq_false (by omega)
  have e2 : decide (4094 < vlan) = false := decide_eq_false (by omega)
  clear gF nF eV
  cases v
  all_goals go_enter Tryz.func31, Tryz.ntmps31
  all_goals go_wp2_with (first | (refine st ?_; clear hH; (first | intro W g hH | intro W hH)) | ((with_reducible refine callH hH ?_); refine ⟨?_, ?_, ?_⟩; rotate_left; (focus (first | (exact fz.out _ hH.below))); clear hH; (first | intro W g hH | intro W hH); ((try simp only [Act.put, pA, pB, pC]))))
  all_goals go_ret
  all_goals exact ⟨rfl, hH.below⟩
/-- a result that is good -/
structure Res.Good (r : Res) : Prop where
  h0 : 0 ≤ r.vlan
  h1 : r.vlan ≤ 4094
  gF : goodA r.f.v r.f.b = true
  nF : groupA r.f.v r.f.b = false
  eV : r.f.v = r.a.v
  k : (r.kind = 1 ∧ goodT r.t = true ∧ r.t.v6 = r.a.v ∧ (eqA r.a (destA r.t) && hereA r.f r.t) = true ∧ r.pr = 0 ∧ r.hop = 0 ∧ r.d = ⟨#[]⟩) ∨
    (r.kind = 2 ∧ r.t = Tk.z ∧ goodA r.a.v r.a.b = true ∧ groupA r.a.v r.a.b = true ∧ (if r.a.v then 1 else 0) ≤ r.pr ∧ r.pr ≤ 255 ∧ (if r.a.v then r.pr = 58 → V.isF r.d = false else (r.pr == 2) = false) ∧ 0 ≤ r.hop ∧ r.hop ≤ 255 ∧ r.d.size ≤ 1400)
theorem fGood_any (hr : r.Good) (hX : TkX D X r.t) (hD : Hp B w0 w D) : Gives Tryz.prog 9 #[.agg (fls (r.S X)).toArray] w (.bool true) := by
  have fd := Lib.hid (show ∀ W', Below w.heap.size w W' → Gives Tryz.prog 31 #[.agg (fls (r.S X)).toArray] W' (.bool true) from fun W' hb => by
    obtain ⟨h0, h1, gF, nF, eV, k⟩ := hr
    obtain ⟨kind, vlan, f, a, t, pr, hop, d, e⟩ := r
    unfold Res.S
    simp only at *
    rcases k with ⟨rfl, hg, hv, he, rfl, rfl, rfl⟩ | ⟨rfl, rfl, gA, nA, hp, hp2, ho, k0, k1, hd⟩
    · have := goodS_any hX (hD.keep hb) hg h0 h1 gF nF eV hv
      rwa [he] at this
    · exact goodS2_any hX (hD.keep hb) gF nF eV h0 h1 (fun w => goodD_any hX.ok gA nA hp hp2 ho k0 k1 hd))
  have oX := hX.ok
  clear hX hD hr
  refine Gives.of ?_
  have hH := Hp.refl w
  obtain ⟨kind, vlan, f, a, t, pr, hop, d, e⟩ := r
  unfold Res.S at *
  simp only at *
  have oF := adL_ok f
  have oA := adL_ok a
  unfold sdS at *
  generalize adL f = F at *
  generalize adL a = A at *
  go_enter Tryz.func9, Tryz.ntmps9
  go_wp2_with (first | (refine st ?_; clear hH; (first | intro W g hH | intro W hH)) | ((with_reducible refine callH hH ?_); refine ⟨?_, ?_, ?_⟩; rotate_left; (focus (first | (exact fd.out _ hH.below))); clear hH; (first | intro W g hH | intro W hH); ((try simp only [Act.put, pA, pB, pC]))))
  go_ret
  exact ⟨rfl, hH.below⟩
end
end Go.Proofs.YtdnehjhijmeihaaGreat
namespace Go.Proofs.YtdnehjhijmeihaaGreat
-- %in
open Go.ChangeShapes Go.WideShapes Go.ChangeAt Go.RowKit
set_option linter.unusedVariables false
set_option linter.unusedSimpArgs false
set_option maxRecDepth 20000

section
variable {b : ByteArray} {p : Pk} {vl : Int} {T : Tk} {e : Int}
theorem tlF_good (hp : p.Ok) (nF : groupA p.f.v p.f.b = false) (h0 : 0 ≤ vl) (h1 : vl ≤ 4094) (hg : e = 0 → goodT T = true ∧ T.v6 = p.a.v) (he : (tlF T e vl p).e = 0) : (tlF T e vl p).Good := by
  unfold tlF tailR at *
  by_cases h : e ≠ 0
  · rw [if_pos h] at he; exact absurd he h
  rw [if_neg h] at *
  obtain ⟨hg, hv⟩ := hg (Classical.not_not.1 h)
  by_cases hc : (p.hop != 1 || (alertT T && !p.al || !(eqA p.a (destA T) && hereA p.f T))) = true
  · rw [if_pos hc] at he; cases he
  rw [if_neg hc]
  refine ⟨h0, h1, hp.gf, nF, hp.v, .inl ⟨rfl, hg, hv, ?_, rfl, rfl, rfl⟩⟩
  show (eqA p.a (destA T) && hereA p.f T) = true
  simp at hc ⊢
  exact hc.2.2
/-- what else a packet's parts are within -/
structure Pk.In (p : Pk) : Prop where
  pr0 : (if p.a.v then 1 else 0) ≤ p.pr
  pr1 : p.pr ≤ 255
  hop0 : 0 ≤ p.hop
  hop1 : p.hop ≤ 255
theorem pk4_in {s : ByteArray} (he : err4 s = 0) : (pk4 s).In := by
  have hv := pk4_v he
  have h9 := by4_lt s 9
  have h8 := by4_lt s 8
  refine ⟨?_, ?_, ?_, ?_⟩
  · rw [hv]; unfold pk4; rw [if_pos he]; show (0 : Int) ≤ (by4 s 9 : Int); omega
  · unfold pk4; rw [if_pos he]; show (by4 s 9 : Int) ≤ 255; omega
  · unfold pk4; rw [if_pos he]; show (0 : Int) ≤ (by4 s 8 : Int); omega
  · unfold pk4; rw [if_pos he]; show (by4 s 8 : Int) ≤ 255; omega
theorem strip_nx {b : ByteArray} (he : (strip6 b).e = 0) : 1 ≤ (strip6 b).nx ∧ (strip6 b).nx ≤ 255 := by
  have hb := by4_lt b 0
  unfold strip6 at he ⊢
  by_cases h4 : b.size < 8 ∨ b.size < m6 b
  · rw [if_pos h4] at he; cases he
  rw [if_neg h4] at he ⊢
  have h5 : by4 b 0 ≠ 0 := fun h0 => by
    by_cases h6 : (o6 b).2 = 0
    · simp only [if_pos (⟨h6, h0⟩ : (o6 b).2 = 0 ∧ by4 b 0 = 0)] at he; cases he
    · simp only [if_neg (fun h => h6 h.1 : ¬((o6 b).2 = 0 ∧ by4 b 0 = 0))] at he; exact h6 he
  show (1 : Int) ≤ (by4 b 0 : Int) ∧ (by4 b 0 : Int) ≤ 255
  omega
theorem err6_strip {s : ByteArray} (he : err6 s = 0) (hz : by4 s 6 = 0) : (strip6 (b6 s)).e = 0 := by
  unfold err6 at he
  generalize strip6 (b6 s) = x at *
  by_cases h1 : s.size < 40
  · rw [if_pos h1] at he; cases he
  rw [if_neg h1] at he
  by_cases h2 : w6 s / 268435456 ≠ 6
  · rw [if_pos h2] at he; cases he
  rw [if_neg h2] at he
  by_cases h3 : s.size < 40 + l6 s
  · rw [if_pos h3] at he; cases he
  rwa [if_neg h3, if_pos hz] at he
theorem pk6_parts {s : ByteArray} (he : err6 s = 0) : (pk6 s).pr = (if by4 s 6 = 0 then (strip6 (b6 s)).nx else (by4 s 6 : Int)) ∧ (pk6 s).hop = (by4 s 7 : Int) := by
  unfold pk6
  rw [if_pos he]
  by_cases hz : by4 s 6 = 0
  · rw [if_pos hz, if_pos hz]; exact ⟨rfl, rfl⟩
  · rw [if_neg hz, if_neg hz]; exact ⟨rfl, rfl⟩
theorem pk6_in {s : ByteArray} (he : err6 s = 0) : (pk6 s).In := by
  have hv := pk6_v he
  have h6 := by4_lt s 6
  have h7 := by4_lt s 7
  obtain ⟨e1, e2⟩ := pk6_parts he
  have hn : by4 s 6 = 0 → 1 ≤ (strip6 (b6 s)).nx ∧ (strip6 (b6 s)).nx ≤ 255 := fun hz => strip_nx (err6_strip he hz)
  have hp : 1 ≤ (pk6 s).pr ∧ (pk6 s).pr ≤ 255 := by
    rw [e1]
    generalize (strip6 (b6 s)).nx = x at *
    by_cases hz : by4 s 6 = 0
    · rw [if_pos hz]; exact hn hz
    · rw [if_neg hz]; omega
  refine ⟨?_, hp.2, ?_, ?_⟩
  · rw [hv]; exact hp.1
  · rw [e2]; omega
  · rw [e2]; omega
theorem sayF_good (hp : p.Ok) (hi : p.In) (nF : groupA p.f.v p.f.b = false) (nA : groupA p.a.v p.a.b = true) (h0 : 0 ≤ vl) (h1 : vl ≤ 4094) (he : (sayF vl p).e = 0) : (sayF vl p).Good := by
  have hs4 : p.d.size ≤ 1400 := by have := hp.sz; omega
  unfold sayF at *
  by_cases hm : p.a.v = true ∧ p.pr = 58 ∧ V.isF p.d = true
  · rw [if_pos hm] at *
    refine tlF_good hp nF h0 h1 (fun h => ?_) he
    have h6 := V.rReadF_good (f := p.f) (t := p.a) (s := p.d) hs4 h
    exact ⟨by unfold goodT; rw [if_pos (good6_v h6)]; exact h6, (good6_v h6).trans hm.1.symm⟩
  rw [if_neg hm] at *
  by_cases hq : p.a.v = false ∧ p.pr = 2
  · rw [if_pos hq] at *
    refine tlF_good hp nF h0 h1 (fun h => ?_) he
    have h4 := rReadF_good (s := p.d) hs4 h
    exact ⟨by unfold goodT; rw [if_neg (by rw [good4_v h4]; decide)]; exact h4, (good4_v h4).trans hq.1.symm⟩
  rw [if_neg hq]
  refine ⟨h0, h1, hp.gf, nF, hp.v, .inr ⟨rfl, rfl, hp.ga, nA, hi.pr0, hi.pr1, ?_, hi.hop0, hi.hop1, hs4⟩⟩
  show if p.a.v = true then p.pr = 58 → V.isF p.d = false else (p.pr == 2) = false
  cases hv : p.a.v
  · simp; exact fun h => hq ⟨hv, h⟩
  · simp only [if_true]
    intro h58
    cases his : V.isF p.d
    · rfl
    · exact absurd ⟨hv, h58, his⟩ hm
theorem outF_good (hok : p.e = 0 → p.Ok ∧ p.In) (h0 : 0 ≤ vl) (h1 : vl ≤ 4094) (he : (outF b vl p).e = 0) (hk : (outF b vl p).kind ≠ 0) : (outF b vl p).Good := by
  unfold outF at *
  by_cases h : p.e ≠ 0
  · rw [if_pos h] at he; exact absurd he h
  rw [if_neg h] at *
  obtain ⟨hp, hi⟩ := hok (Classical.not_not.1 h)
  by_cases hg : groupA p.f.v p.f.b = true
  · rw [if_pos hg] at he; cases he
  rw [if_neg hg] at *
  by_cases ha : groupA p.a.v p.a.b = false
  · rw [if_pos ha] at hk; exact absurd rfl hk
  rw [if_neg ha] at *
  by_cases hm : ∃ j, j < 6 ∧ mN p.a j ≠ by4 b j
  · rw [if_pos hm] at he; cases he
  rw [if_neg hm] at *
  exact sayF_good hp hi (by simpa using hg) (by simpa using ha) h0 h1 he
theorem resF_good (hs : b.size ≤ 250) (he : (resF b).e = 0) (hk : (resF b).kind ≠ 0) : (resF b).Good := by
  have hbd := bdE_le hs
  unfold resF at *
  by_cases h : erE b ≠ 0
  · rw [if_pos h] at he; exact absurd he h
  rw [if_neg h] at *
  have hv := vlE_le (Classical.not_not.1 h)
  by_cases h4 : tyE b = 2048
  · rw [if_pos h4] at *
    exact outF_good (fun h => by rw [pk4_e] at h; exact ⟨pk4_ok hbd h, pk4_in h⟩) (by omega) (by omega) he hk
  rw [if_neg h4] at *
  by_cases h6 : tyE b = 34525
  · rw [if_pos h6] at *
    exact outF_good (fun h => by rw [pk6_e] at h; exact ⟨pk6_ok hbd h, pk6_in h⟩) (by omega) (by omega) he hk
  rw [if_neg h6] at hk
  exact absurd rfl hk
end
end Go.Proofs.YtdnehjhijmeihaaGreat
namespace Go.Proofs.YtdnehjhijmeihaaGreat
-- %in
open Go.ChangeShapes Go.WideShapes Go.ChangeAt Go.RowKit
set_option linter.unusedVariables false
set_option linter.unusedSimpArgs false
set_option maxRecDepth 20000
set_option maxHeartbeats 4000000
attribute [local irreducible] wpList ByteArray.extract Int.decLt

theorem own : ownKnob Tryz.prog.godebug = none := by kernel_rfl
section
variable {w : World} {s : ByteArray}
theorem frameReads_walk : Gives Tryz.prog 3 #[.string s] w (.bool true) := by
  have fc : ∀ w, Gives Tryz.prog 5 #[.string s, .int .i64 250] w (.string (s.extract 0 250)) := fun w => cut_any
  have hs : (s.extract 0 250).size ≤ 250 := cut_size s 250
  generalize s.extract 0 250 = t at *
  have FR := Lib.hid (show ∀ (W : World) (H : HB) (Q : Ending → World → Prop), Hp w.heap.size w W H → (∀ W' X D, Hid (TkX D X (resF t).t) → Hid (∀ r ∈ D, r.2.2.1 = true) → Hp w.heap.size w W' (H ++ D) → Q (.returned (.tuple #[.agg (fls ((resF t).S X)).toArray, .int .i64 (resF t).e])) W') → Calls Tryz.prog 6 #[.string t] W Q from fun W H Q hH hQ =>
    (fread_any hs).mono fun _ _ ⟨X, D, he, hm, hr⟩ => by subst he; exact hQ _ X D (Lib.hid hr) (Lib.hid hm.2) (hH.join hm))
  have RR := Lib.hid (show ∀ (W : World) (H : HB) (Q : Ending → World → Prop), Hp w.heap.size w W H → (∀ W' X D, Hid (TkX D X (resF t).t) → Hid (∀ r ∈ D, r.2.2.1 = true) → Hp w.heap.size w W' (H ++ D) → Q (.returned (.tuple #[.agg (fls ((resF t).S X)).toArray, .int .i64 (resF t).e])) W') → Calls Tryz.prog 7 #[.string t] W Q from fun W H Q hH hQ =>
    (rfread_any hs).mono fun _ _ ⟨X, D, he, hm, hr⟩ => by subst he; exact hQ _ X D (Lib.hid hr) (Lib.hid hm.2) (hH.join hm))
  have hg := resF_good hs
  generalize resF t = r at *
  have HS := Lib.hid (show ∀ (W : World) X X' D D', Hid (TkX D X r.t) → Hid (TkX D' X' r.t) → Hp w.heap.size w W D → Hp w.heap.size w W D' → Gives Tryz.prog 8 #[.agg (fls (r.S X)).toArray, .agg (fls (r.S X')).toArray] W (.bool true) from fun W X X' D D' h1 h2 h3 h4 => rfSame_any h1.out h2.out h3 h4)
  have HG := fun he hk => Lib.hid (show ∀ (W : World) X D, Hid (TkX D X r.t) → Hp w.heap.size w W D → Gives Tryz.prog 9 #[.agg (fls (r.S X)).toArray] W (.bool true) from fun W X D h1 h2 => fGood_any (hg he hk) h1.out h2)
  clear hg
  obtain ⟨kind, vlan, f, a, T, pr, hop, d, e⟩ := r
  unfold Res.S at *
  simp only at *
  have oF := adL_ok f
  have oA := adL_ok a
  unfold sdS at *
  generalize adL f = F at *
  generalize adL a = A at *
  refine Gives.of ?_
  have hH := Hp.refl w
  by_cases he : e = 0
  · subst he
    by_cases hk : kind = 0
    · subst hk
      clear HG
      go_enter Tryz.func3, Tryz.ntmps3
      go_wp2_with (first | ((go_at_call 6; refine FR.out _ _ _ hH ?_; (clear hH; intro W X D hX hD hH); have oX := TkX.ok hX.out; (try simp only [List.cons_append, List.nil_append] at hH); ((try simp only [Act.put, pA, pB, pC])))) | ((go_at_call 7; refine RR.out _ _ _ hH ?_; (clear hH; intro W X2 D2 hX2 hD2 hH); have oX2 := TkX.ok hX2.out; (try simp only [List.cons_append, List.nil_append] at hH); ((try simp only [Act.put, pA, pB, pC])))) | (refine st ?_; clear hH; (first | intro W g hH | intro W hH)) | ((with_reducible refine callH hH ?_); refine ⟨?_, ?_, ?_⟩; rotate_left; (focus (first | (with_reducible exact lives10) | (exact HS.out _ _ _ _ _ hX hX2 (hH.sub SubI.h) (hH.sub SubI.h)))); clear hH; (first | intro W g hH | intro W hH); ((try simp only [Act.put, pA, pB, pC]))))
      go_ret
      exact ⟨by simp, hH.below⟩
    · have HG2 := HG rfl hk
      have dk : (kind == 0) = false := by simpa using hk
      clear HG hk
      go_enter Tryz.func3, Tryz.ntmps3
      go_wp2_with (first | ((go_at_call 6; refine FR.out _ _ _ hH ?_; (clear hH; intro W X D hX hD hH); have oX := TkX.ok hX.out; (try simp only [List.cons_append, List.nil_append] at hH); ((try simp only [Act.put, pA, pB, pC])))) | ((go_at_call 7; refine RR.out _ _ _ hH ?_; (clear hH; intro W X2 D2 hX2 hD2 hH); have oX2 := TkX.ok hX2.out; (try simp only [List.cons_append, List.nil_append] at hH); ((try simp only [Act.put, pA, pB, pC])))) | (refine st ?_; clear hH; (first | intro W g hH | intro W hH)) | ((with_reducible refine callH hH ?_); refine ⟨?_, ?_, ?_⟩; rotate_left; (focus (first | (with_reducible exact lives10) | (exact HS.out _ _ _ _ _ hX hX2 (hH.sub SubI.h) (hH.sub SubI.h)) | (exact HG2.out _ _ _ hX (hH.sub SubI.h)))); clear hH; (first | intro W g hH | intro W hH); ((try simp only [Act.put, pA, pB, pC]))))
      go_ret
      exact ⟨by simp, hH.below⟩
  · have de : (e != 0) = true := by simpa using he
    clear HG he
    go_enter Tryz.func3, Tryz.ntmps3
    go_wp2_with (first | ((go_at_call 6; refine FR.out _ _ _ hH ?_; (clear hH; intro W X D hX hD hH); have oX := TkX.ok hX.out; (try simp only [List.cons_append, List.nil_append] at hH); ((try simp only [Act.put, pA, pB, pC])))) | ((go_at_call 7; refine RR.out _ _ _ hH ?_; (clear hH; intro W X2 D2 hX2 hD2 hH); have oX2 := TkX.ok hX2.out; (try simp only [List.cons_append, List.nil_append] at hH); ((try simp only [Act.put, pA, pB, pC])))) | (refine st ?_; clear hH; (first | intro W g hH | intro W hH)) | ((with_reducible refine callH hH ?_); refine ⟨?_, ?_, ?_⟩; rotate_left; (focus (first | (with_reducible exact lives10) | (exact HS.out _ _ _ _ _ hX hX2 (hH.sub SubI.h) (hH.sub SubI.h)))); clear hH; (first | intro W g hH | intro W hH); ((try simp only [Act.put, pA, pB, pC]))))
    go_ret
    exact ⟨by simp, hH.below⟩
end
set_option maxRecDepth 100000 in
theorem frameReads_lifted (os : Os) (started : os.Started) (H : Type) (enc : TypeId × Value → H) :
    ReturnsInHanded {} Tryz.checked os 3 .any (Rows.frameReadsSpec.pre6 enc Tryz.prog Tryz.f3 Rows.frameReadsRow.domain false) (Rows.frameReadsSpec.post enc Tryz.prog Tryz.f3 false true false false) := by
  refine lifted_of_walk (C := Tryz.checked) (tb := 4) own started (by kernel_rfl) Tryz.func3
    (ChangeSpec.witness6 (enc := enc) (C := Tryz.checked) false ⟨#[], #[.string ⟨#[]⟩], []⟩ 8 (by kernel_rfl) (by kernel_rfl) (by kernel_rfl) (by kernel_rfl))
    (by kernel_rfl) Tryz.underlying4 (by kernel_rfl) (by kernel_rfl) rfl ?_ ?_
  · intro ds hl
    match ds, hl with
    | [d0], _ => exact ⟨rfl, rfl, rfl⟩
  · intro W base args ds ps hval hA hfz
    have hA' : DataW.TrodAll enc Tryz.prog W 0 (fun _ => true) true Tryz.f3.params.toList args.toList ds ps := hA
    rw [Tryz.params3] at hA'
    obtain ⟨v0, vs0, d0, ds0, p0, q0, hargs0, rfl, rfl, h0, r0⟩ := trodAll_cons hA'
    obtain ⟨hvs, rfl, rfl⟩ := trodAll_nil r0
    obtain rfl : args = #[v0] := by cases args; simp_all
    have g0 := hval 0 9 v0 rfl rfl
    obtain ⟨s, rfl, _⟩ := open_str Tryz.underlying9 g0
    exact frameReads_walk
theorem frameReads_proved : Rows.FrameReadsSaid :=
  OpenClaim.holds_of_wide 3 Tryz.f3 rfl rfl rfl rfl rfl rfl rfl ⟨rfl, rfl, rfl, rfl, rfl⟩ rfl rfl rfl rfl rfl (by kernel_rfl) Tryz.func3 (by kernel_rfl)
    (of_decide_eq_true (by kernel_rfl)) (by unfold Func.isWrapper; first | (rw [if_pos (by decide +kernel)]; kernel_rfl) | (rw [if_neg (by decide +kernel)]; exact ⟨rfl, rfl⟩))
    (fun os started H enc _ => frameReads_lifted os started H enc)
end Go.Proofs.YtdnehjhijmeihaaGreat
