/-
  Joined texts: Wh.
-/
import Derived.Test.YtdnehjhijmeihaaGreatQWe
import Derived.Test.YtdnehjhijmeihaaGreatQGiz
import Derived.Test.YtdnehjhijmeihaaGreatQWa
import Derived.Test.YtdnehjhijmeihaaGreatQJl
import Derived.Test.YtdnehjhijmeihaaGreatQGw
import Derived.Test.YtdnehjhijmeihaaGreatQVu
import Derived.Test.YtdnehjhijmeihaaGreatQJm
namespace Go.Proofs.YtdnehjhijmeihaaGreat
open Go.ChangeShapes Go.WideShapes Go.ChangeAt Go.RowKit
set_option linter.unusedVariables false
set_option linter.unusedSimpArgs false
set_option maxRecDepth 20000
set_option maxHeartbeats 4000000
structure Res.Gd (r : Res) : Prop where
  h0 : 0 ≤ r.vlan
  h1 : r.vlan ≤ 4094
  gF : goodA r.f.v r.f.b = true
  nF : groupA r.f.v r.f.b = false
  eV : r.f.v = r.a.v
  k : (r.kind = 1 ∧ goodT r.t = true ∧ r.t.v6 = r.a.v ∧ (eqA r.a (destA r.t) && hereA r.f r.t) = true ∧ r.pr = 0 ∧ r.hop = 0 ∧ r.d = ⟨#[]⟩) ∨
    (r.kind = 2 ∧ r.t = Tk.z ∧ goodA r.a.v r.a.b = true ∧ groupA r.a.v r.a.b = true ∧ (if r.a.v then 1 else 0) ≤ r.pr ∧ r.pr ≤ 255 ∧ (if r.a.v then (r.pr == 58 && V.isF r.d) else r.pr == 2) = false ∧ 0 ≤ r.hop ∧ r.hop ≤ 255 ∧ r.d.size ≤ 1400)
theorem empty_of {d : ByteArray} (h : d.toList.isEmpty = true) : d = ⟨#[]⟩ := by
  have h1 : d.toList = [] := by simpa using h
  have h2 := size_toList d
  have : d.size = 0 := by
    apply Classical.byContradiction; intro hn
    have := notEmpty (d := d) (by omega)
    rw [h] at this; cases this
  have h3 : d.data.toList = [] := List.eq_nil_of_length_eq_zero (by rw [h2]; exact this)
  exact data_inj (by rw [h3])
theorem sG_gd {r : Res} (h : sG r = true) : r.Gd := by
  unfold sG at h
  simp only [Bool.and_eq_true, Bool.not_eq_true', decide_eq_false_iff_not, beq_iff_eq] at h
  obtain ⟨h0, h1, gF, nF, eV, hk⟩ := h
  refine ⟨by omega, by omega, gF, nF, eV, ?_⟩
  split at hk
  · rename_i k1
    left
    unfold tG at hk
    simp only [Bool.and_eq_true, beq_iff_eq] at hk
    obtain ⟨g, e, hr, v, p, hp, d⟩ := hk
    exact ⟨k1, g, v.trans eV, by rw [Bool.and_eq_true]; exact ⟨e, hr⟩, p, hp, empty_of d⟩
  · split at hk
    · rename_i _ k2
      right
      unfold dG at hk
      simp only [Bool.and_eq_true, Bool.not_eq_true', decide_eq_true_eq] at hk
      obtain ⟨⟨ga, gg, c3, c4, ho, c5, c6, c7⟩, sm⟩ := hk
      exact ⟨k2, sameT_iff.1 sm, ga, gg, c3, c4, ho, c5, c6, by omega⟩
    · cases hk
theorem group_on (v : Bool) (l : UInt8) : groupA (onA v l).v (onA v l).b = true := by cases v <;> simp [onA, groupA, hdA]
theorem grp4_group {a : Ad} (h : grp4 a = true) : groupA a.v a.b = true := by unfold grp4 at h; simp only [Bool.and_eq_true] at h; exact h.2
theorem grp6_group {a : Ad} (h : grp6 a = true) : groupA a.v a.b = true := by unfold grp6 at h; simp only [Bool.and_eq_true] at h; exact h.2
theorem group_dest {T : Tk} (h : goodT T = true) : groupA (destA T).v (destA T).b = true := by
  unfold destA
  by_cases h1 : (T.kind == 1 && zeroA T.grp.b) = true
  · rw [if_pos h1]; exact group_on _ _
  rw [if_neg h1]
  by_cases h2 : (T.kind == 3) = true
  · rw [if_pos h2]; exact group_on _ _
  rw [if_neg h2]
  by_cases h3 : (T.kind == 2 && lastT T) = true
  · rw [if_pos h3]; exact group_on _ _
  rw [if_neg h3]
  unfold goodT at h
  cases hv : T.v6
  · rw [hv, if_neg (by decide)] at h
    have hz : zeroA Ad.z.b = true := by decide
    rcases good4_cases h with rfl | ⟨r, g, rfl, r1, r2, hg⟩ | ⟨g, k, v, rfl, hg, hkv⟩ | ⟨R, rfl, hR, hl⟩ | ⟨resp, g, q, rob, ev, src, rfl, g1, g2, g3, g4, g5, hg, g6⟩
    · exact absurd hz (by simpa using h1)
    · rcases hg with rfl | hg
      · exact absurd hz (by simpa using h1)
      · exact grp4_group hg
    · exact grp4_group hg
    · exact absurd rfl h3
    · rcases hg with rfl | hg
      · exact absurd hz (by simpa using h1)
      · exact grp4_group hg
  · rw [hv, if_pos rfl] at h
    obtain ⟨v6, ver, kind, resp, g, quiet, rob, every, src, recs⟩ := T
    simp only at *
    subst hv
    cases hg : grp6 g
    · exfalso
      unfold good6 zero6 at h
      simp only [hg] at h
      unfold lastT at h3
      simp at h h1 h2 h3
      obtain ⟨⟨⟨⟨⟨-, -⟩, hk1⟩, -⟩, -⟩, -, h⟩ := h
      split at h
      · rename_i hvk; exact (h3 hvk.2).2 hvk.1
      · have e := h1 (by omega)
        rw [h.2.2.1.1.2] at e; cases e
    · exact grp6_group hg
def hopB (r : Res) : Nat := if r.kind = 1 then 1 else r.hop.toNat
def prB (r : Res) : Nat := if r.kind = 1 then (if r.a.v then 58 else 2) else r.pr.toNat
def alB (r : Res) : Bool := if r.kind = 1 then (r.t.v6 || decide (1 < r.t.ver)) else false
noncomputable def dB (r : Res) : ByteArray := if r.kind = 1 then (if r.a.v then V.writeT r.f r.a r.t else writeT r.t) else r.d
noncomputable def pkB (r : Res) : ByteArray := if r.a.v then w6B (hopB r) (prB r) r.f r.a (alB r) (dB r) else w4 (hopB r) (prB r) r.f r.a (alB r) (dB r)
def tyB (r : Res) : Nat := if r.a.v then 34525 else 2048
noncomputable def wrB (r : Res) (ys : List UInt8) : ByteArray := wE (macB r.a) ys r.vlan.toNat (tyB r) (pkB r)
structure Few (T : Tk) : Prop where
  s : T.src.length ≤ 6
  r : T.recs.length ≤ 6
  rs : ∀ x ∈ T.recs, x.src.length ≤ 6
theorem few_of (T : Tk) : Few (fewT T) := by
  refine ⟨?_, ?_, fun x hx => ?_⟩
  · unfold fewT; simp only [List.length_take]; omega
  · unfold fewT; simp only [List.length_map, List.length_take]; omega
  · unfold fewT at hx
    obtain ⟨y, -, rfl⟩ := List.mem_map.1 hx
    unfold fewR; simp only [List.length_take]; omega
theorem recN_few {a b : Nat} : ∀ {R : List Rc}, (∀ x ∈ R, x.src.length ≤ 6) → recN a b R ≤ R.length * (a + b * 6)
  | [], _ => by simp [recN]
  | x :: R, h => by
    have h1 := recN_few (a := a) (b := b) (R := R) fun y hy => h y (List.mem_cons_of_mem _ hy)
    have h2 := h x List.mem_cons_self
    have h3 : b * x.src.length ≤ b * 6 := Nat.mul_le_mul_left _ h2
    simp only [recN, List.length_cons, Nat.add_mul, Nat.one_mul] at *
    omega
theorem len4 {T : Tk} (h : good4 T = true) (hF : Few T) : (writeT T).size ≤ 204 := by
  have hz : (writeT T).size = 4 + (restL T).length := by
    unfold writeT headL; simp only [str_size, List.length_append, putL_length]; omega
  have hb : ∀ a : Ad, (bytesA a.v a.b).length ≤ 16 := bytesA_le
  rw [hz]
  rcases good4_cases h with rfl | ⟨r, g, rfl, r1, r2, hg⟩ | ⟨g, k, v, rfl, hg, hkv⟩ | ⟨R, rfl, hR, hl⟩ | ⟨resp, g, q, rob, ev, src, rfl, h1, h2, h3, h4, h5, hg, h6⟩
  · have := hb Ad.z; simp only [restL]; simp; omega
  · have := hb g; simp only [restL]; simp; omega
  · have := hb g; rcases hkv with ⟨rfl, rfl⟩ | ⟨rfl, rfl⟩ | ⟨rfl, rfl⟩ <;> (simp only [restL]; simp; omega)
  · have h1 := recsB_len hR
    have h2 := recN_few (a := 8) (b := 4) hF.rs
    have h3 := hF.r
    simp only at h2 h3
    simp only [restL]
    simp [putL_length, h1]
    omega
  · have := hb g
    have h1 := srcB_len (srcs4_all h5).1
    have h3 := hF.s
    simp only at h3
    simp only [restL]
    simp [putL_length, h1]
    omega
end Go.Proofs.YtdnehjhijmeihaaGreat
