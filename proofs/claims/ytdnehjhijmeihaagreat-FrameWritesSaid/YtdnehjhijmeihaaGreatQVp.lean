/-
  Joined texts: Vp, Vs, Vd, Vef.
-/
import Derived.Test.YtdnehjhijmeihaaGreatQVc
import Derived.Test.YtdnehjhijmeihaaGreatQSg
import Derived.Test.YtdnehjhijmeihaaGreatQSl
import Derived.Test.YtdnehjhijmeihaaGreatQTg
import Derived.Test.YtdnehjhijmeihaaGreatQVa
namespace Go.Proofs.YtdnehjhijmeihaaGreat.V
open Go.ChangeShapes Go.WideShapes Go.ChangeAt Go.RowKit
set_option linter.unusedVariables false
set_option linter.unusedSimpArgs false
set_option maxRecDepth 20000
attribute [local irreducible] wpList
section
variable {w : World} {sp rp : Option Addr} {sc rc : Nat} {T : Tk}
set_option maxHeartbeats 8000000 in
theorem vgood_bad {v6 quiet : Bool} {ver kind resp rob every : Int} {g : Ad} {n m : Nat} (h : v6 = false ∨ (ver ≠ 1 ∧ ver ≠ 2) ∨ (kind ≠ 1 ∧ kind ≠ 2 ∧ kind ≠ 3) ∨ (ver = 2 ∧ kind = 3)) : Gives Tryz.prog 125 #[.agg (fls [.one (.bool v6), .one (.int .i64 ver), .one (.int .i64 kind), .one (.int .i64 resp), .many (adL g) 17, .one (.bool quiet), .one (.int .i64 rob), .one (.int .i64 every), .one (.slice sp n sc), .one (.slice rp m rc)]).toArray] w (.bool false) := by
  have f1 : ∀ w, Gives Tryz.prog 166 #[.agg (fls [.many (adL g) 17]).toArray] w (.bool (zero6 g)) := fun w => vzero_any
  have f2 : ∀ w, Gives Tryz.prog 167 #[.agg (fls [.many (adL g) 17]).toArray] w (.bool (grp6 g)) := fun w => vgroup_any
  have oG := adL_ok g
  generalize adL g = G at *
  generalize zero6 g = zb at *
  generalize grp6 g = gb at *
  refine Gives.of ?_
  have hH := Hp.refl w
  have hab : zb = true ∨ zb = false := by cases zb <;> simp
  by_cases h1 : v6 = false
  · subst h1
    clear h
    rcases hab with rfl | rfl
    all_goals
      go_enter Tryz.func125, Tryz.ntmps125
      go_wp2_with (refine st ?_; clear hH; first | intro W g hH | intro W hH)
      go_ret
      exact ⟨rfl, hH.below⟩
  have h1 : v6 = true := by simpa using h1
  subst h1
  by_cases h2 : ver ≠ 1 ∧ ver ≠ 2
  · obtain ⟨a1, a2⟩ := h2
    have d1 : (ver == 1) = false := by simpa using a1
    have d2 : (ver == 2) = false := by simpa using a2
    clear h a1 a2
    rcases hab with rfl | rfl
    all_goals
      go_enter Tryz.func125, Tryz.ntmps125
      go_wp2_with (refine st ?_; clear hH; first | intro W g hH | intro W hH)
      go_ret
      exact ⟨rfl, hH.below⟩
  by_cases h3 : kind ≠ 1 ∧ kind ≠ 2 ∧ kind ≠ 3
  · obtain ⟨a1, a2, a3⟩ := h3
    have d1 : (kind == 1) = false := by simpa using a1
    have d2 : (kind == 2) = false := by simpa using a2
    have d3 : (kind == 3) = false := by simpa using a3
    clear h a1 a2 a3
    rcases (show ver = 1 ∨ ver = 2 by omega) with rfl | rfl
    all_goals
      clear h2
      rcases hab with rfl | rfl
      all_goals
        go_enter Tryz.func125, Tryz.ntmps125
        go_wp2_with (refine st ?_; clear hH; first | intro W g hH | intro W hH)
        go_ret
        exact ⟨rfl, hH.below⟩
  obtain ⟨rfl, rfl⟩ : ver = 2 ∧ kind = 3 := by
    rcases h with h | h | h | h
    · cases h
    · exact absurd h h2
    · exact absurd h h3
    · exact h
  clear h h2 h3
  rcases hab with rfl | rfl
  all_goals
    go_enter Tryz.func125, Tryz.ntmps125
    go_wp2_with (refine st ?_; clear hH; first | intro W g hH | intro W hH)
    go_ret
    exact ⟨rfl, hH.below⟩
theorem bne_notV {α : Type} [BEq α] (a b : α) : (a != b) = !(a == b) := rfl
theorem lenBV (n : Nat) : decide (0 < n) = !(n == 0) := by cases n <;> rfl
theorem zAd_bool (g : Ad) : (g == Ad.z) = (!g.v && zeroA g.b) := by
  rw [Bool.eq_iff_iff]
  unfold zeroA
  simp only [beq_iff_eq, Bool.and_eq_true, Bool.not_eq_true']
  exact ⟨fun h => by subst h; exact ⟨rfl, rfl⟩, fun h => Ad.ext2 h.1 h.2⟩
set_option maxHeartbeats 4000000 in
theorem vgood_any (hA : AdsAt w sp T.src) (hR : RcsAt w rp T.recs) : Gives Tryz.prog 125 #[.agg (fls (tkS T sp sc rp rc)).toArray] w (.bool (good6 T)) := by
  obtain ⟨v6, ver, kind, resp, g, quiet, rob, every, src, recs⟩ := T
  have hn := hA.1
  have hm := hR.1
  unfold tkS
  simp only at *
  by_cases hb : v6 = false ∨ (ver ≠ 1 ∧ ver ≠ 2) ∨ (kind ≠ 1 ∧ kind ≠ 2 ∧ kind ≠ 3) ∨ (ver = 2 ∧ kind = 3)
  · have e : good6 ⟨v6, ver, kind, resp, g, quiet, rob, every, src, recs⟩ = false := by
      unfold good6
      simp only
      rw [if_pos]
      simp only [Bool.or_eq_true, Bool.not_eq_true', decide_eq_true_eq, Bool.and_eq_true, beq_iff_eq]
      rcases hb with h | h | h | h
      · simp [h]
      · omega
      · omega
      · omega
    rw [e]
    exact vgood_bad hb
  obtain rfl : v6 = true := by simp at hb; exact hb.1
  have hv : (ver = 1 ∧ (kind = 1 ∨ kind = 2 ∨ kind = 3)) ∨ (ver = 2 ∧ (kind = 1 ∨ kind = 2)) := by
    simp only [Bool.true_eq_false, false_or] at hb
    omega
  rcases hv with ⟨rfl, rfl | rfl | rfl⟩ | ⟨rfl, rfl | rfl⟩
  · have e : good6 ⟨true, 1, 1, resp, g, quiet, rob, every, src, recs⟩ = (simpV ⟨true, 1, 1, resp, g, quiet, rob, every, src, recs⟩ && (zero6 g || grp6 g) && decide (0 ≤ resp) && decide (resp ≤ 65535)) := by
      unfold good6 simpV
      simp only [lenBV, bne_notV]
      rw [show decide (resp ≤ 65535) = decide (resp < 65536) from decide_eq_decide.2 (by omega), show decide (0 ≤ resp) = !decide (resp < 0) by rw [Bool.eq_iff_iff]; simp]
      cases quiet <;> cases (rob == 0) <;> cases (every == 0) <;> cases (src.length == 0) <;> cases (recs.length == 0) <;> cases (zero6 g) <;> cases (grp6 g) <;> cases decide (resp < 0) <;> cases decide (resp < 65536) <;> rfl
    rw [e]
    exact vgood_11 hn hm
  · have e : good6 ⟨true, 1, 2, resp, g, quiet, rob, every, src, recs⟩ = (simpV ⟨true, 1, 2, resp, g, quiet, rob, every, src, recs⟩ && grp6 g && resp == 0) := by
      unfold good6 simpV
      simp only [lenBV, bne_notV]
      cases quiet <;> cases (rob == 0) <;> cases (every == 0) <;> cases (src.length == 0) <;> cases (recs.length == 0) <;> cases (resp == 0) <;> cases (grp6 g) <;> rfl
    rw [e]
    exact vgood_12 hn hm
  · have e : good6 ⟨true, 1, 3, resp, g, quiet, rob, every, src, recs⟩ = (simpV ⟨true, 1, 3, resp, g, quiet, rob, every, src, recs⟩ && grp6 g && resp == 0) := by
      unfold good6 simpV
      simp only [lenBV, bne_notV]
      cases quiet <;> cases (rob == 0) <;> cases (every == 0) <;> cases (src.length == 0) <;> cases (recs.length == 0) <;> cases (resp == 0) <;> cases (grp6 g) <;> rfl
    rw [e]
    exact vgood_13 hn hm
  · have e : good6 ⟨true, 2, 1, resp, g, quiet, rob, every, src, recs⟩ = ((zero6 g || grp6 g) && asksV ⟨true, 2, 1, resp, g, quiet, rob, every, src, recs⟩) := by
      unfold good6 asksV ex16 ex8
      simp only [lenBV, bne_notV]
      rw [show decide (rob ≤ 7) = decide (rob < 8) from decide_eq_decide.2 (by omega), show decide (0 ≤ resp) = !decide (resp < 0) by rw [Bool.eq_iff_iff]; simp]
      cases (src.length == 0) <;> cases (recs.length == 0) <;> cases (zero6 g) <;> cases (grp6 g) <;> cases decide (resp < 0) <;> cases ((valN 4096 (cod16 resp) : Int) == resp) <;> cases decide (0 ≤ every) <;> cases ((valN 16 (cod8 every) : Int) == every) <;> cases decide (0 ≤ rob) <;> cases decide (rob < 8) <;> cases srcs6 src <;> rfl
    rw [e]
    exact vgood_21 hn hm hA
  · have e : good6 ⟨true, 2, 2, resp, g, quiet, rob, every, src, recs⟩ = (simpV ⟨true, 2, 2, resp, g, quiet, rob, every, src, []⟩ && resp == 0 && g == Ad.z && recs6 recs) := by
      unfold good6 simpV recs6
      simp only [lenBV, bne_notV, zAd_bool, List.length_nil]
      cases quiet <;> cases (rob == 0) <;> cases (every == 0) <;> cases (src.length == 0) <;> cases (resp == 0) <;> cases (!g.v && zeroA g.b) <;> cases (recs.all rcOk6) <;> cases decide (recs.length < 65) <;> cases decide (8 + recN 20 16 recs < 1401) <;> rfl
    rw [e]
    exact vgood_22 hn hm hR
theorem vGood_any (h1 : AdsAt w sp T.src) (h2 : RcsAt w rp T.recs) : Gives Tryz.prog 162 #[.agg (fls (tkS T sp sc rp rc)).toArray] w (.bool (good6 T)) := by
  have F := Lib.hid (fun W' (hb : Below w.heap.size w W') => vgood_any (T := T) (sc := sc) (rc := rc) (h1.below hb) (h2.below hb))
  refine Gives.of ?_
  have hH := Hp.refl w
  clear h1 h2
  generalize good6 T = g at *
  obtain ⟨v6, ver, kind, resp, G, quiet, rob, every, src, recs⟩ := T
  unfold tkS at *
  have oG := adL_ok G
  simp only at *
  generalize adL G = Y at *
  go_enter Tryz.func162, Tryz.ntmps162
  go_wp2_with (first | (refine st ?_; clear hH; first | intro W g hH | intro W hH) | ((with_reducible refine callH hH ?_); refine ⟨?_, ?_, ?_⟩; rotate_left; (focus (first | (exact F.out _ hH.below))); (clear hH; first | intro W g hH | intro W hH); ((try simp only [Act.put, pA, pB, pC]))))
  go_ret
  exact ⟨rfl, hH.below⟩
end
end Go.Proofs.YtdnehjhijmeihaaGreat.V
namespace Go.Proofs.YtdnehjhijmeihaaGreat.V
section
open Go.ChangeShapes Go.WideShapes Go.ChangeAt Go.RowKit
set_option linter.unusedVariables false
set_option linter.unusedSimpArgs false
set_option maxRecDepth 20000
attribute [local irreducible] wpList

def U8At (w : World) (q : Addr) (L : List Nat) : Prop := L.length ≤ 1000 ∧ ∀ j (h : j < L.length), OldC w (q.add j) (.int .u8 (L[j] : Int))
theorem U8At.below {w W : World} {q : Addr} {L : List Nat} (h : U8At w q L) (hb : Below w.heap.size w W) : U8At W q L := ⟨h.1, fun j hj => (h.2 j hj).below hb⟩
def idxU (L : List Nat) (x : Nat) : Int := match L.findIdx? (fun a => a == x) with
  | some i => (i : Int)
  | none => -1
theorem idxU_some {L : List Nat} {x j : Nat} (h : (L.take j).all (fun a => !(a == x)) = true) (hj : j < L.length) (hx : L[j] = x) : idxU L x = (j : Int) := by
  have : L.findIdx? (fun a => a == x) = some j := by
    rw [List.findIdx?_eq_some_iff_getElem]
    refine ⟨hj, by simp [hx], fun k hk => ?_⟩
    have hk2 : k < (L.take j).length := by rw [List.length_take]; omega
    have := List.all_eq_true.1 h _ (List.getElem_mem hk2)
    rw [List.getElem_take] at this
    simpa using this
  unfold idxU
  rw [this]
theorem idxU_none {L : List Nat} {x : Nat} (h : L.all (fun a => !(a == x)) = true) : idxU L x = -1 := by
  have : L.findIdx? (fun a => a == x) = none := by
    rw [List.findIdx?_eq_none_iff]
    intro a ha
    have := List.all_eq_true.1 h a ha
    simpa using this
  unfold idxU
  rw [this]
theorem idxU_iff {L : List Nat} {x : Nat} : decide (0 ≤ idxU L x) = L.contains x := by
  cases h : L.contains x
  · have : L.all (fun a => !(a == x)) = true := by
      rw [List.all_eq_true]
      intro a ha
      have hn : x ∉ L := by simpa using h
      have : a ≠ x := fun e => hn (e ▸ ha)
      simpa using this
    rw [idxU_none this]
    rfl
  · unfold idxU
    cases hf : L.findIdx? (fun a => a == x) with
    | some i => simp
    | none =>
      rw [List.findIdx?_eq_none_iff] at hf
      have hm : x ∈ L := by simpa using h
      have := hf x hm
      simp at this
section
variable {w : World} {q : Addr} {c x : Nat} {L : List Nat}
theorem uindex_any (h : U8At w q L) (hx : x < 256) : Gives Tryz.prog 188 #[.slice (some q) L.length c, .int .u8 (x : Int)] w (.int .i64 (idxU L x)) := by
  have hl := h.1
  have HA := Lib.hid h
  clear h
  obtain ⟨res, hres⟩ : ∃ r, idxU L x = r := ⟨_, rfl⟩
  rw [hres]
  have HR := Lib.hid hres
  clear hres
  refine Gives.of ?_
  have hH := Hp.refl w
  go_enter Tryz.func188, Tryz.ntmps188
  go_wp2_with (refine st ?_; clear hH; first | intro W g hH | intro W hH)
  go_loopw [5, 8] (fun _ i wr => ∃ j : Nat, i = .int .i64 (j : Int) ∧ j ≤ L.length ∧ (L.take j).all (fun a => !(a == x)) = true ∧ Hp w.heap.size w wr []) (fun _ i _ => L.length - (intOf i).toNat)
  case atStart => exact ⟨0, rfl, by omega, rfl, hH⟩
  case round =>
    clear hH
    obtain ⟨j, rfl, hj, hT, hH⟩ := hrel
    by_cases hjl : j < L.length
    · have fC := HA.out.2 j hjl
      have dj : decide ((j : Int) < (L.length : Int)) = true := decide_eq_true (by omega)
      have HS := Lib.hid (fun e => all_snoc hT hjl e)
      have HN := Lib.hid (fun e => HR.out.symm.trans (idxU_some hT hjl e))
      clear hT HA
      generalize L[j] = b at *
      by_cases hb : b = x
      · have e := HN.out hb
        subst e
        subst hb
        clear HS HN
        go_wp2_with (first | ((refine gL rfl ?_; refine hLo tab_ok rfl ?_ rfl hH rfl rfl ?_; (focus first|exact wN rfl|exact rfl); refine ⟨_, fC, ?_⟩; (clear hH; (first | intro W g hH | intro W hH); (try simp only [Act.put, pA, pB, pC])))) | (refine st ?_; clear hH; first | intro W g hH | intro W hH))
        go_ret
        exact ⟨rfl, hH.below⟩
      · have db : ((x : Int) == (b : Int)) = false := by simp; omega
        have e := Lib.hid (HS.out (by simpa using hb))
        clear HS HN
        go_wp2_with (first | ((refine gL rfl ?_; refine hLo tab_ok rfl ?_ rfl hH rfl rfl ?_; (focus first|exact wN rfl|exact rfl); refine ⟨_, fC, ?_⟩; (clear hH; (first | intro W g hH | intro W hH); (try simp only [Act.put, pA, pB, pC])))) | (refine st ?_; clear hH; first | intro W g hH | intro W hH))
        exact ⟨⟨j + 1, by simp, by omega, e.out, hH⟩, by simp [intOf]; omega⟩
    · have e : res = -1 := HR.out.symm.trans (idxU_none (by rwa [List.take_of_length_le (by omega)] at hT))
      subst e
      have dj : decide ((j : Int) < (L.length : Int)) = false := decide_eq_false (by omega)
      clear hT HA HR
      go_wp2_with (refine st ?_; clear hH; first | intro W g hH | intro W hH)
      go_ret
      exact ⟨rfl, hH.below⟩
theorem ucontains_any (h : U8At w q L) (hx : x < 256) : Gives Tryz.prog 150 #[.slice (some q) L.length c, .int .u8 (x : Int)] w (.bool (L.contains x)) := by
  have f1 := Lib.hid (show ∀ W, Below w.heap.size w W → Gives Tryz.prog 188 #[.slice (some q) L.length c, .int .u8 (x : Int)] W (.int .i64 (idxU L x)) from fun W hb => uindex_any (h.below hb) hx)
  have e := idxU_iff (L := L) (x := x)
  have hl := h.1
  generalize idxU L x = k at *
  generalize L.contains x = b at *
  clear h
  refine Gives.of ?_
  have hH := Hp.refl w
  go_enter Tryz.func150, Tryz.ntmps150
  go_wp2_with (first | (refine st ?_; clear hH; first | intro W g hH | intro W hH) | ((with_reducible refine callH hH ?_); refine ⟨?_, ?_, ?_⟩; rotate_left; (focus (first | (exact f1.out _ hH.below))); (clear hH; first | intro W g hH | intro W hH); ((try simp only [Act.put, pA, pB, pC]))))
  go_ret
  exact ⟨by simp [e], hH.below⟩
end
section
variable {w : World} {s : ByteArray}
theorem isB_get {s : ByteArray} {k : Nat} (h : k < s.size) : s[k].toNat = numAt s k 1 := by
  have hl : k < s.data.toList.length := by rw [size_toList]; exact h
  unfold numAt
  rw [List.drop_eq_getElem_cons hl, List.take_succ_cons, List.take_zero]
  show (s.data[k]).toNat = _
  rw [← Array.getElem_toList]
  simp [numL]
def isF (s : ByteArray) : Bool := decide (0 < s.size) && [130, 131, 132, 143].contains (numAt s 0 1)
theorem vIs_any : Gives Tryz.prog 109 #[.string s] w (.bool (isF s)) := by
  refine Gives.of ?_
  have hH := Hp.refl w
  unfold isF
  by_cases hz : s.size = 0
  · have e : s = ⟨#[]⟩ := by
      have := size_toList s
      rw [hz] at this
      have : s = ByteArray.empty := by simpa using this
      exact this
    subst e
    go_enter Tryz.func109, Tryz.ntmps109
    go_wp2_with (refine st ?_; clear hH; first | intro W g hH | intro W hH)
    go_ret
    exact ⟨rfl, hH.below⟩
  · have hne2 := notEmpty (d := s) (by omega)
    have hp : decide (0 < s.size) = true := decide_eq_true (by omega)
    rw [hp, Bool.true_and]
    have i0 : ∀ W, (Instr.index 9 (.string s) (.int .i64 0)).run Tryz.prog W = .ok (.int .u8 (numAt s 0 1 : Int)) W := fun W => by
      rw [run_idx Tryz.underlying9 s 0 (by omega) 0 rfl W, isB_get (by omega)]
    have hx : numAt s 0 1 < 256 := numAt_lt s 0 1
    have hc : ∀ (W : World) (g c : Nat), Row W g 5 (fls [.one (.int .u8 130), .one (.int .u8 131), .one (.int .u8 132), .one (.int .u8 143)]).toArray → Gives Tryz.prog 150 #[.slice (some ⟨g, 0, none⟩) 4 c, .int .u8 (numAt s 0 1 : Int)] W (.bool ([130, 131, 132, 143].contains (numAt s 0 1))) := fun W g c hr => by
      refine ucontains_any (L := [130, 131, 132, 143]) ⟨by simp, fun j hj => ?_⟩ hx
      have hj : j < 4 := hj
      have e : (⟨g, 0, none⟩ : Addr).add j = ⟨g, j, none⟩ := by unfold Addr.add; split <;> simp_all
      rw [e]
      refine ⟨?_, hr.lt⟩
      rw [hr.cell]
      match j, hj with
      | 0, _ => rfl
      | 1, _ => rfl
      | 2, _ => rfl
      | 3, _ => rfl
    generalize numAt s 0 1 = x at *
    generalize [130, 131, 132, 143].contains x = b at *
    clear hz hp
    go_enter Tryz.func109, Tryz.ntmps109
    go_wp2_with (first | ((go_at_call 150; refine callR 0 hH rfl (fun hr => hc _ _ _ hr) ?_; (clear hH; (first | intro W g hH | intro W hH); (try simp only [Act.put, pA, pB, pC])))) | (refine st ?_; clear hH; first | intro W g hH | intro W hH))
    go_ret
    exact ⟨rfl, hH.below⟩
end
end
end Go.Proofs.YtdnehjhijmeihaaGreat.V
namespace Go.Proofs.YtdnehjhijmeihaaGreat.V
open Go.ChangeShapes Go.WideShapes Go.ChangeAt Go.RowKit
set_option linter.unusedVariables false
set_option linter.unusedSimpArgs false
set_option maxRecDepth 20000
attribute [local irreducible] wpList
structure St where
  k : Nat
  b : Bool
  e : Int
def rdSegs (s : ByteArray) (t : St) : List Seg := [.one (.string s), .one (.int .i64 (t.k : Int)), .one (.bool t.b)]
def failS (is : Bool) (c : Int) (t : St) : St := if is && t.e == 0 then ⟨t.k, t.b, c⟩ else t
theorem failS_k (is : Bool) (c : Int) (t : St) : (failS is c t).k = t.k := by unfold failS; split <;> rfl
theorem failS_b (is : Bool) (c : Int) (t : St) : (failS is c t).b = t.b := by unfold failS; split <;> rfl
theorem failS_e (is : Bool) (c : Int) (t : St) : (failS is c t).e = if is && t.e == 0 then c else t.e := by unfold failS; split <;> rfl
def stepS (s : ByteArray) (n : Nat) (t : St) : St := failS (rdB s t.k t.b n) 3 ⟨rdK s t.k t.b n, rdB s t.k t.b n, t.e⟩
def numV (s : ByteArray) (n : Nat) (t : St) : Nat := numL (rdS s t.k t.b n).data.toList
theorem rdS_le (s : ByteArray) (k : Nat) (b : Bool) (n : Nat) : (rdS s k b n).size ≤ n := by
  unfold rdS
  split
  · have := cut_size2 s k (k + n); omega
  · exact Nat.zero_le _
theorem numV_lt (s : ByteArray) (n : Nat) (t : St) : numV s n t < 256 ^ n := by
  unfold numV
  refine Nat.lt_of_lt_of_le (numL_lt _) (Nat.pow_le_pow_right (by omega) ?_)
  rw [size_toList]
  exact rdS_le _ _ _ _
theorem stepS_k {s : ByteArray} {n : Nat} {t : St} (h : t.k ≤ s.size) : (stepS s n t).k ≤ s.size := by
  unfold stepS
  rw [failS_k]
  exact rdK_le _ _ h
def adR (b : ByteArray) : Ad := if h : b.size = 4 then ⟨false, adOf b, adOf_length (by omega)⟩ else if h : b.size = 16 then ⟨true, adOf b, adOf_length (by omega)⟩ else Ad.z
def addrS (s : ByteArray) (n : Nat) (t : St) : Ad := adR (rdS s t.k t.b n)
section
variable {v6 qt : Bool} {ver kd rs rob ev : Int} {GA : List Value} {xp yp : Option Addr} {xn xc yn yc : Nat}
variable {B : Nat} {w0 W w : World} {H : HB} {g gr : Nat} {s : ByteArray} {t : St} {Q : Ending → World → Prop}
abbrev rgS (gr : Nat) (v6 : Bool) (ver kd rs : Int) (GA : List Value) (qt : Bool) (rob ev : Int) (xp : Option Addr) (xn xc : Nat) (yp : Option Addr) (yn yc : Nat) (e : Int) : List Seg := [.one (.pointer (some ⟨gr, 0, none⟩)), .one (.bool v6), .one (.int .i64 ver), .one (.int .i64 kd), .one (.int .i64 rs), .many GA 17, .one (.bool qt), .one (.int .i64 rob), .one (.int .i64 ev), .one (.slice xp xn xc), .one (.slice yp yn yc), .one (.int .i64 e)]
abbrev rdH (g gr : Nat) (s : ByteArray) (t : St) (v6 : Bool) (ver kd rs : Int) (GA : List Value) (qt : Bool) (rob ev : Int) (xp : Option Addr) (xn xc : Nat) (yp : Option Addr) (yn yc : Nat) (H : HB) : HB := (g, 159, true, (rgS gr v6 ver kd rs GA qt rob ev xp xn xc yp yn yc (t.e))) :: (gr, 129, true, rdSegs s t) :: H
theorem ifail_any (oA : OkA GA 17) {is : Bool} {c : Int} (hH : Hp B w0 W (rdH g gr s t v6 ver kd rs GA qt rob ev xp xn xc yp yn yc H)) (hQ : ∀ W', Hp B w0 W' (rdH g gr s (failS is c t) v6 ver kd rs GA qt rob ev xp xn xc yp yn yc H) → Q (.returned (.tuple #[])) W') : Calls Tryz.prog 189 #[.pointer (some ⟨g, 0, none⟩), .bool is, .int .i64 c] W Q := by
  obtain ⟨k, b, e⟩ := t
  have HQ := Lib.hid hQ
  clear hQ
  unfold rdH rgS rdSegs failS at *
  cases is
  · go_enter Tryz.func189, Tryz.ntmps189
    go_wp2_with (refine st ?_; clear hH; first | intro W g hH | intro W hH)
    go_end0
    exact HQ.out _ (by simpa using hH)
  · by_cases he : e = 0
    · subst he
      go_enter Tryz.func189, Tryz.ntmps189
      go_wp2_with (refine st ?_; clear hH; first | intro W g hH | intro W hH)
      go_end0
      exact HQ.out _ (by simpa using hH)
    · have de : (e == 0) = false := by simpa using he
      go_enter Tryz.func189, Tryz.ntmps189
      go_wp2_with (refine st ?_; clear hH; first | intro W g hH | intro W hH)
      go_end0
      exact HQ.out _ (by simpa [de] using hH)
theorem hFail (i j : Nat) (oA : OkA GA 17) {H1 H2 : HB} {is : Bool} {c : Int} {e : Int} (hH : Hp B w0 W H) (hi : nthH H i = some (g, 159, true, (rgS gr v6 ver kd rs GA qt rob ev xp xn xc yp yn yc e))) (hu : updH H i (rgS gr v6 ver kd rs GA qt rob ev xp xn xc yp yn yc ((failS is c ⟨t.k, t.b, e⟩).e)) = some H1) (hj : nthH H1 j = some (gr, 129, true, rdSegs s t)) (hu2 : updH H1 j (rdSegs s t) = some H2) (hQ : ∀ W', Hp B w0 W' H2 → Q (.returned (.tuple #[])) W') : Calls Tryz.prog 189 #[.pointer (some ⟨g, 0, none⟩), .bool is, .int .i64 c] W Q :=
  callM2 i j hH hi hu hj hu2 (by decide) (fun H0 h k => ifail_any oA (t := ⟨t.k, t.b, e⟩) h (fun W' h' => k W' (by
    have e1 : (failS is c ⟨t.k, t.b, e⟩).k = t.k := failS_k _ _ _
    have e2 : (failS is c ⟨t.k, t.b, e⟩).b = t.b := failS_b _ _ _
    unfold rdH rdSegs at *
    rwa [e1, e2] at h'))) hQ
theorem adR_six {b : ByteArray} (h : b.size = 16) : adL (adR b) = addrL true (adOf b) := by unfold adR adL; rw [dif_neg (by omega), dif_pos h]
theorem adR_none {b : ByteArray} (h : b.size = 0) : adR b = Ad.z := by unfold adR; rw [dif_neg (by omega), dif_neg (by omega)]
theorem aRead_six {b : ByteArray} (h : b.size = 16 ∨ b.size = 0) : ∃ c : Int, ∀ w, Gives Tryz.prog 107 #[.string b] w (.tuple #[.agg (fls [.many (adL (adR b)) 17]).toArray, .int .i64 c]) := by
  rcases h with h | h
  · refine ⟨0, fun w => ?_⟩
    rw [adR_six h, addr_segs1]
    exact aRead_t (b := true) rfl (by simpa using h)
  · refine ⟨2, fun w => ?_⟩
    have e : b = ⟨#[]⟩ := by
      have := size_toList b
      rw [h] at this
      have : b = ByteArray.empty := by simpa using this
      exact this
    rw [adR_none h, adL_z, e]
    refine Gives.of ?_
    have hH := Hp.refl w
    go_enter Tryz.func107, Tryz.ntmps107
    go_wp2_with (refine st ?_; clear hH; first | intro W g hH | intro W hH)
    (refine iRet2 Tryz.results107 tab_ok rfl rfl hH ?_; refine ⟨_, _, rfl, rfl, rfl, ?_⟩)
    exact ⟨rfl, hH.below⟩
theorem rdS_four (s : ByteArray) (k : Nat) (b : Bool) (n : Nat) : (rdS s k b n).size = n ∨ (rdS s k b n).size = 0 := by
  unfold rdS
  split
  · rename_i h
    have h2 : k + n ≤ s.size := by unfold rdFits at h; simp at h; exact h.2
    rw [extract_size h2 (by omega)]
    left; omega
  · exact .inr rfl
set_option maxHeartbeats 1000000 in
theorem inum_any (oA : OkA GA 17) {n : Nat} (hn : n ≤ 8) (hs : s.size ≤ 100000) (hk : t.k ≤ s.size) (hH : Hp B w0 W (rdH g gr s t v6 ver kd rs GA qt rob ev xp xn xc yp yn yc H)) (hQ : ∀ W', Hp B w0 W' (rdH g gr s (stepS s n t) v6 ver kd rs GA qt rob ev xp xn xc yp yn yc H) → Q (.returned (.int .i64 (wrap64 (numV s n t : Int)))) W') : Calls Tryz.prog 152 #[.pointer (some ⟨g, 0, none⟩), .int .i64 (n : Int)] W Q := by
  obtain ⟨k, b, e⟩ := t
  simp only at hk
  have HQ := Lib.hid hQ
  clear hQ
  have hw : wn (n : Int) 8 = n := by unfold wn within; split; omega; split <;> omega
  have hv := numV_lt s n ⟨k, b, e⟩
  have hk2 := rdK_le (s := s) (k := k) b n hk
  unfold rdH rgS rdSegs at hH
  simp only at hH
  go_enter Tryz.func152, Tryz.ntmps152
  have hR : ∀ {W : World} {H' : HB} {Q : Ending → World → Prop}, Hp B w0 W ((g, 159, true, (rgS gr v6 ver kd rs GA qt rob ev xp xn xc yp yn yc e)) :: (gr, 129, true, [.one (.string s), .one (.int .i64 (k : Int)), .one (.bool b)]) :: H') → (∀ W', Hp B w0 W' ((g, 159, true, (rgS gr v6 ver kd rs GA qt rob ev xp xn xc yp yn yc e)) :: (gr, 129, true, [.one (.string s), .one (.int .i64 ((rdK s k b n : Nat) : Int)), .one (.bool (rdB s k b n))]) :: H') → Q (.returned (.int .u64 (numV s n ⟨k, b, e⟩ : Int))) W') → Calls Tryz.prog 49 #[.pointer (some ⟨gr, 0, none⟩), .int .i64 (n : Int)] W Q := fun h k' => by
    refine hNumA 1 h rfl rfl (by omega) hk ?_
    rw [hw]
    exact k'
  have HR := @hR
  clear hR
  have hF : ∀ {W : World} {H' : HB} {Q : Ending → World → Prop}, Hp B w0 W ((g, 159, true, (rgS gr v6 ver kd rs GA qt rob ev xp xn xc yp yn yc e)) :: (gr, 129, true, [.one (.string s), .one (.int .i64 ((rdK s k b n : Nat) : Int)), .one (.bool (rdB s k b n))]) :: H') → (∀ W', Hp B w0 W' ((g, 159, true, (rgS gr v6 ver kd rs GA qt rob ev xp xn xc yp yn yc ((stepS s n ⟨k, b, e⟩).e))) :: (gr, 129, true, [.one (.string s), .one (.int .i64 ((rdK s k b n : Nat) : Int)), .one (.bool (rdB s k b n))]) :: H') → Q (.returned (.tuple #[])) W') → Calls Tryz.prog 189 #[.pointer (some ⟨g, 0, none⟩), .bool (rdB s k b n), .int .i64 3] W Q := fun h k' =>
    hFail (t := ⟨rdK s k b n, rdB s k b n, e⟩) 0 1 oA h rfl rfl rfl rfl k'
  have HF := @hF
  clear hF
  have ek : (stepS s n ⟨k, b, e⟩).k = rdK s k b n := failS_k _ _ _
  have eb : (stepS s n ⟨k, b, e⟩).b = rdB s k b n := failS_b _ _ _
  have HQ2 := Lib.hid (show ∀ W', Hp B w0 W' ((g, 159, true, (rgS gr v6 ver kd rs GA qt rob ev xp xn xc yp yn yc ((stepS s n ⟨k, b, e⟩).e))) :: (gr, 129, true, [.one (.string s), .one (.int .i64 ((rdK s k b n : Nat) : Int)), .one (.bool (rdB s k b n))]) :: H) → Q (.returned (.int .i64 (wrap64 (numV s n ⟨k, b, e⟩ : Int)))) W' from fun W' h => HQ.out W' (by unfold rdH rdSegs; rw [ek, eb]; exact h))
  clear HQ ek eb hw hv
  generalize numV s n ⟨k, b, e⟩ = v at *
  generalize (stepS s n ⟨k, b, e⟩).e = e' at *
  generalize rdK s k b n = k' at *
  generalize rdB s k b n = b' at *
  go_wp2_with (first | ((go_at_call 49; refine HR hH ?_; (clear hH; (first | intro W g hH | intro W hH); (try simp only [Act.put, pA, pB, pC])))) | ((go_at_call 52; refine hBad 1 hH rfl ?_; (clear hH; (first | intro W g hH | intro W hH); (try simp only [Act.put, pA, pB, pC])))) | ((go_at_call 189; refine HF hH ?_; (clear hH; (first | intro W g hH | intro W hH); (try simp only [Act.put, pA, pB, pC])))) | (refine st ?_; clear hH; first | intro W g hH | intro W hH))
  exact HQ2.out _ hH
theorem hINum (i j : Nat) (oA : OkA GA 17) {H1 H2 : HB} {n : Nat} (hn : n ≤ 8) (hs : s.size ≤ 100000) (hk : t.k ≤ s.size) (hH : Hp B w0 W H) (hi : nthH H i = some (g, 159, true, (rgS gr v6 ver kd rs GA qt rob ev xp xn xc yp yn yc (t.e)))) (hu : updH H i (rgS gr v6 ver kd rs GA qt rob ev xp xn xc yp yn yc ((stepS s n t).e)) = some H1) (hj : nthH H1 j = some (gr, 129, true, rdSegs s t)) (hu2 : updH H1 j (rdSegs s (stepS s n t)) = some H2) (hQ : ∀ W', Hp B w0 W' H2 → Q (.returned (.int .i64 (wrap64 (numV s n t : Int)))) W') : Calls Tryz.prog 152 #[.pointer (some ⟨g, 0, none⟩), .int .i64 (n : Int)] W Q :=
  callM2 i j hH hi hu hj hu2 (by decide) (fun H0 h k => inum_any oA hn hs hk h k) hQ
set_option maxHeartbeats 1000000 in
theorem iaddr_any (oA : OkA GA 17) (hs : s.size ≤ 100000) (hk : t.k ≤ s.size) (hH : Hp B w0 W (rdH g gr s t v6 ver kd rs GA qt rob ev xp xn xc yp yn yc H)) (hQ : ∀ W', Hp B w0 W' (rdH g gr s (stepS s 16 t) v6 ver kd rs GA qt rob ev xp xn xc yp yn yc H) → Q (.returned (.agg (fls [.many (adL (addrS s 16 t)) 17]).toArray)) W') : Calls Tryz.prog 190 #[.pointer (some ⟨g, 0, none⟩)] W Q := by
  obtain ⟨k, b, e⟩ := t
  simp only at hk
  have HQ := Lib.hid hQ
  clear hQ
  have hk2 := rdK_le (s := s) (k := k) b 16 hk
  obtain ⟨ec, hrd⟩ := aRead_six (rdS_four s k b 16)
  unfold rdH rgS rdSegs at hH
  simp only at hH
  have hR : ∀ {W : World} {H' : HB} {a : Nat × TypeId × Bool × List Seg} {Q : Ending → World → Prop}, Hp B w0 W (a :: (g, 159, true, (rgS gr v6 ver kd rs GA qt rob ev xp xn xc yp yn yc e)) :: (gr, 129, true, [.one (.string s), .one (.int .i64 (k : Int)), .one (.bool b)]) :: H') → (∀ W', Hp B w0 W' (a :: (g, 159, true, (rgS gr v6 ver kd rs GA qt rob ev xp xn xc yp yn yc e)) :: (gr, 129, true, [.one (.string s), .one (.int .i64 ((rdK s k b 16 : Nat) : Int)), .one (.bool (rdB s k b 16))]) :: H') → Q (.returned (.string (rdS s k b 16))) W') → Calls Tryz.prog 101 #[.pointer (some ⟨gr, 0, none⟩), .int .i64 16] W Q := fun h k' =>
    hTakeA (n := 16) 2 h rfl rfl (by omega) hk (by omega) k'
  have HR := @hR
  clear hR
  have hF : ∀ {W : World} {H' : HB} {a a2 : Nat × TypeId × Bool × List Seg} {Q : Ending → World → Prop}, Hp B w0 W (a :: a2 :: (g, 159, true, (rgS gr v6 ver kd rs GA qt rob ev xp xn xc yp yn yc e)) :: (gr, 129, true, [.one (.string s), .one (.int .i64 ((rdK s k b 16 : Nat) : Int)), .one (.bool (rdB s k b 16))]) :: H') → (∀ W', Hp B w0 W' (a :: a2 :: (g, 159, true, (rgS gr v6 ver kd rs GA qt rob ev xp xn xc yp yn yc ((stepS s 16 ⟨k, b, e⟩).e))) :: (gr, 129, true, [.one (.string s), .one (.int .i64 ((rdK s k b 16 : Nat) : Int)), .one (.bool (rdB s k b 16))]) :: H') → Q (.returned (.tuple #[])) W') → Calls Tryz.prog 189 #[.pointer (some ⟨g, 0, none⟩), .bool (rdB s k b 16), .int .i64 3] W Q := fun h k' =>
    hFail (t := ⟨rdK s k b 16, rdB s k b 16, e⟩) 2 3 oA h rfl rfl rfl rfl k'
  have HF := @hF
  clear hF
  have ek : (stepS s 16 ⟨k, b, e⟩).k = rdK s k b 16 := failS_k _ _ _
  have eb : (stepS s 16 ⟨k, b, e⟩).b = rdB s k b 16 := failS_b _ _ _
  have ea : addrS s 16 ⟨k, b, e⟩ = adR (rdS s k b 16) := rfl
  have HQ2 := Lib.hid (show ∀ W', Hp B w0 W' ((g, 159, true, (rgS gr v6 ver kd rs GA qt rob ev xp xn xc yp yn yc ((stepS s 16 ⟨k, b, e⟩).e))) :: (gr, 129, true, [.one (.string s), .one (.int .i64 ((rdK s k b 16 : Nat) : Int)), .one (.bool (rdB s k b 16))]) :: H) → Q (.returned (.agg (fls [.many (adL (adR (rdS s k b 16))) 17]).toArray)) W' from fun W' h => by rw [← ea]; exact HQ.out W' (by unfold rdH rdSegs; rw [ek, eb]; exact h))
  clear HQ ek eb ea
  have oY := adL_ok (adR (rdS s k b 16))
  generalize adL (adR (rdS s k b 16)) = Y at *
  generalize (stepS s 16 ⟨k, b, e⟩).e = e' at *
  generalize rdS s k b 16 = v at *
  generalize rdK s k b 16 = k' at *
  generalize rdB s k b 16 = b' at *
  go_enter Tryz.func190, Tryz.ntmps190
  go_wp2_with (first | ((go_at_call 101; refine HR hH ?_; (clear hH; (first | intro W g hH | intro W hH); (try simp only [Act.put, pA, pB, pC])))) | ((go_at_call 52; refine hBad 3 hH rfl ?_; (clear hH; (first | intro W g hH | intro W hH); (try simp only [Act.put, pA, pB, pC])))) | ((go_at_call 189; refine HF hH ?_; (clear hH; (first | intro W g hH | intro W hH); (try simp only [Act.put, pA, pB, pC])))) | (refine st ?_; clear hH; first | intro W g hH | intro W hH) | ((with_reducible refine callH hH ?_); refine ⟨?_, ?_, ?_⟩; rotate_left; (focus (first | (with_reducible exact hrd _))); (clear hH; first | intro W g hH | intro W hH); ((try simp only [Act.put, pA, pB, pC]))))
  (refine iRet Tryz.results190 tab_ok rfl rfl hH ?_; refine ⟨_, _, rfl, rfl, rfl, ?_⟩)
  exact HQ2.out _ (hH.sub (SubH.drop (SubH.drop SubH.refl)))
theorem hIAddr (i j : Nat) (oA : OkA GA 17) {H1 H2 : HB} (hs : s.size ≤ 100000) (hk : t.k ≤ s.size) (hH : Hp B w0 W H) (hi : nthH H i = some (g, 159, true, (rgS gr v6 ver kd rs GA qt rob ev xp xn xc yp yn yc (t.e)))) (hu : updH H i (rgS gr v6 ver kd rs GA qt rob ev xp xn xc yp yn yc ((stepS s 16 t).e)) = some H1) (hj : nthH H1 j = some (gr, 129, true, rdSegs s t)) (hu2 : updH H1 j (rdSegs s (stepS s 16 t)) = some H2) (hQ : ∀ W', Hp B w0 W' H2 → Q (.returned (.agg (fls [.many (adL (addrS s 16 t)) 17]).toArray)) W') : Calls Tryz.prog 190 #[.pointer (some ⟨g, 0, none⟩)] W Q :=
  callM2 i j hH hi hu hj hu2 (by decide) (fun H0 h k => iaddr_any oA hs hk h k) hQ
end
end Go.Proofs.YtdnehjhijmeihaaGreat.V
namespace Go.Proofs.YtdnehjhijmeihaaGreat.V
section
open Go.ChangeShapes Go.WideShapes Go.ChangeAt Go.RowKit
set_option linter.unusedVariables false
set_option linter.unusedSimpArgs false
set_option maxRecDepth 20000
attribute [local irreducible] wpList

def srcL (s : ByteArray) (n : Nat) : Nat → List Ad → St → List Ad × St
  | 0, X, t => (X, t)
  | f + 1, X, t => if X.length < n ∧ t.e = 0 then srcL s n f (X ++ [addrS s 16 t]) (stepS s 16 t) else (X, t)
def srcF (s : ByteArray) (n : Nat) (t : St) : List Ad × St := srcL s n 65 [] (failS (decide (64 < n)) 6 t)
theorem srcL_more {s : ByteArray} {n f : Nat} {X : List Ad} {t : St} (h : X.length < n ∧ t.e = 0) : srcL s n (f + 1) X t = srcL s n f (X ++ [addrS s 16 t]) (stepS s 16 t) := by rw [srcL, if_pos h]
theorem srcL_end {s : ByteArray} {n f : Nat} {X : List Ad} {t : St} (h : ¬(X.length < n ∧ t.e = 0)) : srcL s n f X t = (X, t) := by
  cases f with
  | zero => rfl
  | succ f => rw [srcL, if_neg h]
theorem srcL_k {s : ByteArray} {n : Nat} : ∀ {f : Nat} {X : List Ad} {t : St}, t.k ≤ s.size → (srcL s n f X t).2.k ≤ s.size
  | 0, X, t, h => h
  | f + 1, X, t, h => by
    rw [srcL]
    split
    · exact srcL_k (stepS_k h)
    · exact h
theorem srcF_k {s : ByteArray} {n : Nat} {t : St} (h : t.k ≤ s.size) : (srcF s n t).2.k ≤ s.size := by
  unfold srcF
  exact srcL_k (by rw [failS_k]; exact h)
section
variable {v6 qt : Bool} {ver kd rs rob ev : Int} {GA : List Value} {xp yp : Option Addr} {xn xc yn yc : Nat}
variable {B : Nat} {w0 W w : World} {H : HB} {g gr : Nat} {s : ByteArray} {t : St} {Q : Ending → World → Prop}
set_option maxHeartbeats 2000000 in
theorem isources_any (oA : OkA GA 17) {n : Nat} (hn : n < 65536) (hs : s.size ≤ 100000) (hk : t.k ≤ s.size) (hH : Hp B w0 W (rdH g gr s t v6 ver kd rs GA qt rob ev xp xn xc yp yn yc H)) (hQ : ∀ W' p c D L t', Hid (srcF s n t = (L, t')) → Hid (∀ B w0 W, Hp B w0 W D → AdsAt W p L) → Hid (∀ r ∈ D, r.2.2.1 = true) → Hp B w0 W' (rdH g gr s t' v6 ver kd rs GA qt rob ev xp xn xc yp yn yc (D ++ H)) → Q (.returned (.slice p L.length c)) W') : Calls Tryz.prog 193 #[.pointer (some ⟨g, 0, none⟩), .int .i64 (n : Int)] W Q := by
  have HQ := Lib.hid hQ
  clear hQ
  obtain ⟨res, hres⟩ : ∃ r, srcF s n t = r := ⟨_, rfl⟩
  have HR := Lib.hid hres
  have hk0 : (failS (decide (64 < n)) 6 t).k ≤ s.size := by rw [failS_k]; exact hk
  have h64 : n ≤ 64 ∨ (failS (decide (64 < n)) 6 t).e ≠ 0 := by
    by_cases h : n ≤ 64
    · exact .inl h
    · right
      rw [failS_e, decide_eq_true (show 64 < n by omega), Bool.true_and]
      by_cases he : t.e = 0
      · rw [he]; simp
      · rw [if_neg (by simpa using he)]; exact he
  have hF : ∀ {W : World} {Q : Ending → World → Prop}, Hp B w0 W (rdH g gr s t v6 ver kd rs GA qt rob ev xp xn xc yp yn yc H) → (∀ W', Hp B w0 W' (rdH g gr s (failS (decide (64 < n)) 6 t) v6 ver kd rs GA qt rob ev xp xn xc yp yn yc H) → Q (.returned (.tuple #[])) W') → Calls Tryz.prog 189 #[.pointer (some ⟨g, 0, none⟩), .bool (decide (64 < (n : Int))), .int .i64 6] W Q := fun h k' => by
    rw [show decide (64 < (n : Int)) = decide (64 < n) from decide_eq_decide.2 (by omega)]
    exact ifail_any oA h k'
  have HF := @hF
  clear hF
  have HL := Lib.hid (show srcL s n 65 [] (failS (decide (64 < n)) 6 t) = res from hres)
  clear hres hk
  generalize failS (decide (64 < n)) 6 t = t1 at *
  unfold rdH rgS at *
  go_enter Tryz.func193, Tryz.ntmps193
  go_wp2_with (first | ((go_at_call 189; refine HF hH ?_; (clear hH; (first | intro W g hH | intro W hH); (try simp only [Act.put, pA, pB, pC])))) | (refine st ?_; clear hH; first | intro W g hH | intro W hH))
  go_loopw [5] (fun sl wr => ∃ (X : List Ad) (t' : St) (f : Nat), Hid (srcL s n f X t' = res) ∧ f + X.length = 65 ∧ t'.k ≤ s.size ∧ (n ≤ 64 ∨ t'.e ≠ 0) ∧ X.length ≤ 64 ∧ ((Hid (X = []) ∧ sl = .slice none 0 0 ∧ Hp B w0 wr ((g, 159, true, (rgS gr v6 ver kd rs GA qt rob ev xp xn xc yp yn yc t'.e)) :: (gr, 129, true, rdSegs s t') :: H)) ∨ (∃ (go cc q : Nat) (J : List Value), sl = .slice (some ⟨go, 0, none⟩) X.length cc ∧ Grow 17 X.length cc (X.length * 17) q ∧ OkA J q ∧ Hp B w0 wr ((go, 25, true, [.many (adsL X) (X.length * 17), .many J q]) :: (g, 159, true, (rgS gr v6 ver kd rs GA qt rob ev xp xn xc yp yn yc t'.e)) :: (gr, 129, true, rdSegs s t') :: H)))) (fun sl _ => match sl with | .slice _ m _ => 64 - m | _ => 0)
  case atStart => exact ⟨[], t1, 65, HL, rfl, hk0, h64, by simp, .inl ⟨Lib.hid rfl, rfl, hH⟩⟩
  case round =>
    clear hH HL HF
    obtain ⟨X, t', f, HL, hf, hk', h64', hX64, hor⟩ := hrel
    by_cases hc : X.length < n ∧ t'.e = 0
    · obtain ⟨hXn, he⟩ := hc
      have hn64 : n ≤ 64 := by rcases h64' with h | h; exact h; exact absurd he h
      obtain ⟨f', rfl⟩ : ∃ f', f = f' + 1 := ⟨f - 1, by omega⟩
      have HL2 := Lib.hid ((srcL_more ⟨hXn, he⟩).symm.trans HL.out)
      have hk2 := stepS_k (n := 16) hk'
      have dj : decide ((X.length : Int) < (n : Int)) = true := decide_eq_true (by omega)
      have hSnoc := Lib.hid (adsL_snoc X (addrS s 16 t'))
      have oY := adL_ok (addrS s 16 t')
      obtain ⟨k', b', e'⟩ := t'
      simp only at he
      subst he
      have HA := Lib.hid (show ∀ (W : World) (H H1 H2 : HB) (Q : Ending → World → Prop) (i j : Nat), Hp B w0 W H → nthH H i = some (g, 159, true, (rgS gr v6 ver kd rs GA qt rob ev xp xn xc yp yn yc 0)) → updH H i (rgS gr v6 ver kd rs GA qt rob ev xp xn xc yp yn yc (stepS s 16 ⟨k', b', 0⟩).e) = some H1 → nthH H1 j = some (gr, 129, true, rdSegs s ⟨k', b', 0⟩) → updH H1 j (rdSegs s (stepS s 16 ⟨k', b', 0⟩)) = some H2 → (∀ W', Hp B w0 W' H2 → Q (.returned (.agg (fls [.many (adL (addrS s 16 ⟨k', b', 0⟩)) 17]).toArray)) W') → Calls Tryz.prog 190 #[.pointer (some ⟨g, 0, none⟩)] W Q from fun W H H1 H2 Q i j h h1 h2 h3 h4 hQ => hIAddr (t := ⟨k', b', 0⟩) i j oA hs hk' h h1 h2 h3 h4 hQ)
      generalize addrS s 16 ⟨k', b', 0⟩ = y at *
      generalize stepS s 16 ⟨k', b', 0⟩ = t2 at *
      obtain ⟨Y, hY⟩ : ∃ Y, Y = adL y := ⟨_, rfl⟩
      rw [← hY] at oY HA hSnoc
      have HY := Lib.hid hY
      clear hY
      rcases hor with ⟨hX, rfl, hH⟩ | ⟨go, cc, q, J, rfl, hG, oJ, hH⟩
      · have hX := hX.out
        subst hX
        have d0 : decide ((0 : Int) < (n : Int)) = true := decide_eq_true (by simp at hXn; omega)
        go_wp2_with (first | ((go_at_call 190; refine HA.out _ _ _ _ _ 0 1 hH rfl rfl rfl rfl ?_; (clear hH; (first | intro W g hH | intro W hH); (try simp only [Act.put, pA, pB, pC])))) | (((first | (refine hApp0 0 tab_ok tabs_ok rfl rfl rfl rfl rfl rfl rfl hH rfl rfl rfl ?_; refine ⟨?_, ?_, ?_⟩; (focus (first | omega | (simp; omega))); (focus (first | omega | (simp; omega))))); clear hH; intro W g c p q J hG hL hJ hH; (try simp only [putH, fls, List.append_nil] at hH hL); (try simp only [Act.put, pA, pB, pC]))) | (refine st ?_; clear hH; first | intro W g hH | intro W hH))
        have hp := hG.hp
        have hq := hG.hq
        have hle := hG.le
        have hmo := hG.most
        refine ⟨⟨[y], t2, f', HL2, by simp at *; omega, hk2, by omega, by simp, .inr ⟨_, c, q, J, rfl, ⟨rfl, by rw [← hq, hp]; rfl, hle, hmo⟩, hJ, ?_⟩⟩, by simp⟩
        have e2 : adsL [y] = Y := by rw [HY.out]; simp [adsL]
        have e1 : [y].length * 17 = p := by rw [hp]; simp
        rw [e2, e1]
        exact hH.sub (SubH.keep (SubH.drop SubH.refl))
      · go_wp2_with (first | ((go_at_call 190; refine HA.out _ _ _ _ _ 1 2 hH rfl rfl rfl rfl ?_; (clear hH; (first | intro W g hH | intro W hH); (try simp only [Act.put, pA, pB, pC])))) | (((first | (refine hApp 1 0 tab_ok tabs_ok rfl rfl rfl rfl rfl rfl rfl hH rfl rfl rfl rfl ?_; refine ⟨?_, ?_, ?_⟩; (focus assumption); (focus (first | omega | (simp; omega))))); clear hH; intro W g c p q J hG hL hJ hH; (try simp only [putH, fls, List.append_nil] at hH hL); (try simp only [Act.put, pA, pB, pC]))) | (refine st ?_; clear hH; first | intro W g hH | intro W hH))
        have hp := hG.hp
        have hq := hG.hq
        have hle := hG.le
        have hmo := hG.most
        have e1 : (X ++ [y]).length = X.length + 1 := by simp
        refine ⟨⟨X ++ [y], t2, f', HL2, by simp; omega, hk2, by omega, by simp; omega, .inr ⟨g, c, q, J, by simp, by rw [e1]; exact ⟨rfl, by rw [← hq, hp], hle, hmo⟩, hJ, ?_⟩⟩, by simp; omega⟩
        have e2 : (X ++ [y]).length * 17 = p := by rw [hp]; simp
        rw [e2, hSnoc.out]
        exact hH.sub (SubH.drop SubH.refl)
    · obtain ⟨k', b', e'⟩ := t'
      simp only at hc hor
      have hcase : (n ≤ X.length ∧ decide ((X.length : Int) < (n : Int)) = false) ∨ (X.length < n ∧ e' ≠ 0 ∧ decide ((X.length : Int) < (n : Int)) = true ∧ (e' == 0) = false) := by
        by_cases h1 : X.length < n
        · have h2 : e' ≠ 0 := fun h => hc ⟨h1, h⟩
          exact .inr ⟨h1, h2, decide_eq_true (by omega), by simpa using h2⟩
        · exact .inl ⟨by omega, decide_eq_false (by omega)⟩
      have HL2 := Lib.hid ((srcL_end hc).symm.trans HL.out)
      have HE := Lib.hid (show srcF s n t = (X, ⟨k', b', e'⟩) from HR.out.trans HL2.out.symm)
      clear hc HL HL2 HR
      rcases hor with ⟨hX, rfl, hH⟩ | ⟨go, cc, q, J, rfl, hG, oJ, hH⟩
      · have hX := hX.out
        subst hX
        rcases hcase with ⟨h1, dj⟩ | ⟨h1, h2, dj, de⟩
        all_goals
          have d0 := show decide ((0 : Int) < (n : Int)) = _ from dj
          clear dj
          simp only [List.length_nil] at h1
          go_wp2_with (refine st ?_; clear hH; first | intro W g hH | intro W hH)
          exact HQ.out _ none 0 [] [] ⟨k', b', e'⟩ HE (Lib.hid (fun _ _ _ _ => AdsAt.nil)) (Lib.hid (fun r hr => by simp at hr)) hH
      · have hp := hG
        clear hG
        rcases hcase with ⟨h1, dj⟩ | ⟨h1, h2, dj, de⟩
        all_goals
          go_wp2_with (refine st ?_; clear hH; first | intro W g hH | intro W hH)
          exact HQ.out _ (some ⟨go, 0, none⟩) cc [(go, _, true, [.many (adsL X) (X.length * 17), .many J q])] X ⟨k', b', e'⟩ HE (Lib.hid (fun B w0 W h => by exact adsAt_row (J := J) (by omega) (by simpa [fls] using (h.rows.mem (i := 0) rfl).1))) (Lib.hid (fun r hr => by simp at hr; rw [hr])) (hH.perm ((List.Perm.swap _ _ _).trans ((List.Perm.swap _ _ _).cons _)))
end
end
section
open Go.ChangeShapes Go.WideShapes Go.ChangeAt Go.RowKit
set_option linter.unusedVariables false
set_option linter.unusedSimpArgs false
set_option maxRecDepth 20000
attribute [local irreducible] wpList

def NumC (B : Nat) (w0 : World) (g gr : Nat) (s : ByteArray) (n : Nat) (t : St) (v : Nat) (t' : St) : Prop :=
  ∀ ⦃v6 qt : Bool⦄ ⦃ver kd rs rob ev : Int⦄ ⦃GA : List Value⦄ ⦃xp yp : Option Addr⦄ ⦃xn xc yn yc : Nat⦄ (W : World) (H H1 H2 : HB) (Q : Ending → World → Prop) (x : Int) (i j : Nat), OkA GA 17 → x = (n : Int) → Hp B w0 W H → nthH H i = some (g, 159, true, rgS gr v6 ver kd rs GA qt rob ev xp xn xc yp yn yc t.e) → updH H i (rgS gr v6 ver kd rs GA qt rob ev xp xn xc yp yn yc t'.e) = some H1 → nthH H1 j = some (gr, 129, true, rdSegs s t) → updH H1 j (rdSegs s t') = some H2 → (∀ W', Hp B w0 W' H2 → Q (.returned (.int .i64 (v : Int))) W') → Calls Tryz.prog 152 #[.pointer (some ⟨g, 0, none⟩), .int .i64 x] W Q
def AddrC (B : Nat) (w0 : World) (g gr : Nat) (s : ByteArray) (t : St) (A : List Value) (t' : St) : Prop :=
  ∀ ⦃v6 qt : Bool⦄ ⦃ver kd rs rob ev : Int⦄ ⦃GA : List Value⦄ ⦃xp yp : Option Addr⦄ ⦃xn xc yn yc : Nat⦄ (W : World) (H H1 H2 : HB) (Q : Ending → World → Prop) (i j : Nat), OkA GA 17 → Hp B w0 W H → nthH H i = some (g, 159, true, rgS gr v6 ver kd rs GA qt rob ev xp xn xc yp yn yc t.e) → updH H i (rgS gr v6 ver kd rs GA qt rob ev xp xn xc yp yn yc t'.e) = some H1 → nthH H1 j = some (gr, 129, true, rdSegs s t) → updH H1 j (rdSegs s t') = some H2 → (∀ W', Hp B w0 W' H2 → Q (.returned (.agg (fls [.many A 17]).toArray)) W') → Calls Tryz.prog 190 #[.pointer (some ⟨g, 0, none⟩)] W Q
def FailC (B : Nat) (w0 : World) (g gr : Nat) (s : ByteArray) (is : Bool) (c : Int) (t : St) (e' : Int) : Prop :=
  ∀ ⦃v6 qt : Bool⦄ ⦃ver kd rs rob ev : Int⦄ ⦃GA : List Value⦄ ⦃xp yp : Option Addr⦄ ⦃xn xc yn yc : Nat⦄ (W : World) (H H1 H2 : HB) (Q : Ending → World → Prop) (x : Bool) (y : Int) (i j : Nat), OkA GA 17 → x = is → y = c → Hp B w0 W H → nthH H i = some (g, 159, true, rgS gr v6 ver kd rs GA qt rob ev xp xn xc yp yn yc t.e) → updH H i (rgS gr v6 ver kd rs GA qt rob ev xp xn xc yp yn yc e') = some H1 → nthH H1 j = some (gr, 129, true, rdSegs s t) → updH H1 j (rdSegs s t) = some H2 → (∀ W', Hp B w0 W' H2 → Q (.returned (.tuple #[])) W') → Calls Tryz.prog 189 #[.pointer (some ⟨g, 0, none⟩), .bool x, .int .i64 y] W Q
def SrcC (B : Nat) (w0 : World) (g gr : Nat) (s : ByteArray) (n : Nat) (t : St) (L : List Ad) (t' : St) : Prop :=
  ∀ ⦃v6 qt : Bool⦄ ⦃ver kd rs rob ev : Int⦄ ⦃GA : List Value⦄ ⦃xp yp : Option Addr⦄ ⦃xn xc yn yc : Nat⦄ (W : World) (H H1 H2 : HB) (Q : Ending → World → Prop) (i j : Nat), OkA GA 17 → Hp B w0 W H → nthH H i = some (g, 159, true, rgS gr v6 ver kd rs GA qt rob ev xp xn xc yp yn yc t.e) → updH H i (rgS gr v6 ver kd rs GA qt rob ev xp xn xc yp yn yc t'.e) = some H1 → nthH H1 j = some (gr, 129, true, rdSegs s t) → updH H1 j (rdSegs s t') = some H2 → (∀ W' p c D, Hid (∀ B w0 W, Hp B w0 W D → AdsAt W p L) → Hid (∀ r ∈ D, r.2.2.1 = true) → Hp B w0 W' (H2 ++ D) → Q (.returned (.slice p L.length c)) W') → Calls Tryz.prog 193 #[.pointer (some ⟨g, 0, none⟩), .int .i64 (n : Int)] W Q
def TakeC (B : Nat) (w0 : World) (gr : Nat) (s : ByteArray) (n : Nat) (t t' : St) : Prop :=
  ∀ (W : World) (H H2 : HB) (Q : Ending → World → Prop) (x : Int) (j : Nat), x = (n : Int) → Hp B w0 W H → nthH H j = some (gr, 129, true, rdSegs s t) → updH H j (rdSegs s t') = some H2 → (∀ W', Hp B w0 W' H2 → Q (.returned (.string (rdS s t.k t.b n))) W') → Calls Tryz.prog 101 #[.pointer (some ⟨gr, 0, none⟩), .int .i64 x] W Q
section
variable {B : Nat} {w0 W w : World} {H : HB} {g gr : Nat} {s : ByteArray} {t : St} {Q : Ending → World → Prop}
theorem wrap_small {v : Nat} (h : v < 2 ^ 63) : wrap64 (v : Int) = (v : Int) := by
  unfold wrap64
  omega
theorem numC {n : Nat} (hn : n ≤ 4) (hs : s.size ≤ 100000) (hk : t.k ≤ s.size) : NumC B w0 g gr s n t (numV s n t) (stepS s n t) := by
  intro v6 qt ver kd rs rob ev GA xp yp xn xc yn yc W H H1 H2 Q x i j oA hx hH h1 h2 h3 h4 hQ
  subst hx
  have hv := numV_lt s n t
  have : 256 ^ n ≤ 256 ^ 4 := Nat.pow_le_pow_right (by omega) hn
  have := wrap_small (v := numV s n t) (by omega)
  rw [← this] at hQ
  exact hINum i j oA (by omega) hs hk hH h1 h2 h3 h4 hQ
theorem addrC (hs : s.size ≤ 100000) (hk : t.k ≤ s.size) : AddrC B w0 g gr s t (adL (addrS s 16 t)) (stepS s 16 t) := fun _ _ _ _ _ _ _ _ _ _ _ _ _ _ W H H1 H2 Q i j oA hH h1 h2 h3 h4 hQ => hIAddr i j oA hs hk hH h1 h2 h3 h4 hQ
theorem failC {is : Bool} {c : Int} : FailC B w0 g gr s is c t (failS is c t).e := fun _ _ _ _ _ _ _ _ _ _ _ _ _ _ W H H1 H2 Q x y i j oA hx hy hH h1 h2 h3 h4 hQ => by subst hx; subst hy; exact hFail (t := t) i j oA hH h1 h2 h3 h4 hQ
theorem srcC {n : Nat} {L : List Ad} {t' : St} (hn : n < 65536) (hs : s.size ≤ 100000) (hk : t.k ≤ s.size) (he : srcF s n t = (L, t')) : SrcC B w0 g gr s n t L t' := by
  intro v6 qt ver kd rs rob ev GA xp yp xn xc yn yc W H H1 H2 Q i j oA hH h1 h2 h3 h4 hQ
  obtain ⟨H0, p1, p2⟩ := perm2 h1 h2 h3 h4 (by decide)
  refine isources_any oA hn hs hk (H := H0) (hH.perm p1) ?_
  intro W' p c D L2 t2 e hA hD h
  have e2 := e.out.symm.trans he
  injection e2 with e3 e4
  subst e3
  subst e4
  refine hQ W' p c D hA hD (h.perm ?_)
  unfold rdH
  refine List.Perm.trans ?_ (p2.symm.append_right D)
  exact (List.Perm.cons _ (List.Perm.cons _ List.perm_append_comm))
theorem takeC {n : Nat} (hn : n ≤ 100000) (hs : s.size ≤ 100000) (hk : t.k ≤ s.size) : TakeC B w0 gr s n t ⟨rdK s t.k t.b n, rdB s t.k t.b n, t.e⟩ := fun W H H2 Q x j hx hH h3 h4 hQ => by
  subst hx
  exact hTakeA (n := (n : Int)) j hH h3 h4 (by omega) hk (by omega) hQ
end
def recF (s : ByteArray) (t : St) : Rc × Bool × St :=
  let t1 := stepS s 1 t
  let t2 := stepS s 1 t1
  let t3 := stepS s 2 t2
  let t4 := stepS s 16 t3
  let L := srcF s (numV s 2 t2) t4
  (⟨numV s 1 t, addrS s 16 t3, L.1⟩, decide (1 ≤ numV s 1 t) && (decide (numV s 1 t ≤ 6) && grp6 (addrS s 16 t3)), if L.2.e = 0 then stepS s (numV s 1 t1 * 4) L.2 else L.2)
theorem recF_k {s : ByteArray} {t : St} (h : t.k ≤ s.size) : (recF s t).2.2.k ≤ s.size := by
  unfold recF
  simp only
  have := srcF_k (n := numV s 2 (stepS s 1 (stepS s 1 t))) (stepS_k (n := 16) (stepS_k (n := 2) (stepS_k (n := 1) (stepS_k (n := 1) h))))
  split
  · exact stepS_k this
  · exact this
def repL (s : ByteArray) (n : Nat) : Nat → Nat → List Rc → St → List Rc × St
  | 0, i, X, t => (X, t)
  | f + 1, i, X, t => if i < n ∧ t.e = 0 then repL s n f (i + 1) (if (recF s t).2.1 then X ++ [(recF s t).1] else X) (recF s t).2.2 else (X, t)
theorem repL_more {s : ByteArray} {n f i : Nat} {X : List Rc} {t : St} (h : i < n ∧ t.e = 0) : repL s n (f + 1) i X t = repL s n f (i + 1) (if (recF s t).2.1 then X ++ [(recF s t).1] else X) (recF s t).2.2 := by rw [repL, if_pos h]
theorem repL_end {s : ByteArray} {n f i : Nat} {X : List Rc} {t : St} (h : ¬(i < n ∧ t.e = 0)) : repL s n f i X t = (X, t) := by
  cases f with
  | zero => rfl
  | succ f => rw [repL, if_neg h]
def repF (s : ByteArray) (t : St) : List Rc × St :=
  repL s (numV s 2 (stepS s 2 t)) 65 0 [] (failS (decide (64 < numV s 2 (stepS s 2 t))) 6 (stepS s 2 (stepS s 2 t)))
theorem own_app {D E : HB} (h : Hid (∀ r ∈ D, r.2.2.1 = true)) (h' : Hid (∀ r ∈ E, r.2.2.1 = true)) : Hid (∀ r ∈ D ++ E, r.2.2.1 = true) := Lib.hid fun r hr => (List.mem_append.1 hr).elim (h.out r) (h'.out r)
theorem in_app {X : List Rv} {D E : HB} (h : Hid (∀ x ∈ X, ∀ B w0 W, Hp B w0 W D → AdsAt W x.p x.r.src)) : Hid (∀ x ∈ X, ∀ B w0 W, Hp B w0 W (D ++ E) → AdsAt W x.p x.r.src) := Lib.hid fun x hx B w0 W hH => h.out x hx B w0 W (hH.sub SubH.appL)
theorem in_snoc {X : List Rv} {D E : HB} {y : Rv} (h : Hid (∀ x ∈ X, ∀ B w0 W, Hp B w0 W D → AdsAt W x.p x.r.src)) (h' : Hid (∀ B w0 W, Hp B w0 W E → AdsAt W y.p y.r.src)) : Hid (∀ x ∈ X ++ [y], ∀ B w0 W, Hp B w0 W (D ++ E) → AdsAt W x.p x.r.src) := Lib.hid fun x hx B w0 W hH => by
  rcases List.mem_append.1 hx with hx | hx
  · exact h.out x hx B w0 W (hH.sub SubH.appL)
  · obtain rfl := List.mem_singleton.1 hx
    exact h'.out B w0 W (hH.sub SubH.appR)
theorem in_one {D E : HB} {y : Rv} (h' : Hid (∀ B w0 W, Hp B w0 W E → AdsAt W y.p y.r.src)) : Hid (∀ x ∈ [y], ∀ B w0 W, Hp B w0 W (D ++ E) → AdsAt W x.p x.r.src) := Lib.hid fun x hx B w0 W hH => by
  obtain rfl := List.mem_singleton.1 hx
  exact h'.out B w0 W (hH.sub SubH.appR)
def RecPre (B : Nat) (w0 : World) (g gr : Nat) (s : ByteArray) (t : St) (v1 v2 v3 : Nat) (a : Ad) (L : List Ad) (t5 : St) : Prop :=
  ∃ t1 t2 t3 t4 : St, NumC B w0 g gr s 1 t v1 t1 ∧ NumC B w0 g gr s 1 t1 v2 t2 ∧ NumC B w0 g gr s 2 t2 v3 t3 ∧ AddrC B w0 g gr s t3 (adL a) t4 ∧ SrcC B w0 g gr s v3 t4 L t5
section
variable {B : Nat} {w0 W w : World} {H : HB} {g gr : Nat} {s : ByteArray} {t : St} {Q : Ending → World → Prop}
theorem recPre (hs : s.size ≤ 100000) (hk : t.k ≤ s.size) : ∃ (v1 v2 v3 : Nat) (a : Ad) (L : List Ad) (t5 : St), RecPre B w0 g gr s t v1 v2 v3 a L t5 ∧ v1 < 256 ∧ v2 < 256 ∧ t5.k ≤ s.size ∧ recF s t = (⟨v1, a, L⟩, decide (1 ≤ v1) && (decide (v1 ≤ 6) && grp6 a), if t5.e = 0 then stepS s (v2 * 4) t5 else t5) :=
  ⟨numV s 1 t, numV s 1 (stepS s 1 t), numV s 2 (stepS s 1 (stepS s 1 t)), addrS s 16 (stepS s 2 (stepS s 1 (stepS s 1 t))), (srcF s (numV s 2 (stepS s 1 (stepS s 1 t))) (stepS s 16 (stepS s 2 (stepS s 1 (stepS s 1 t))))).1, (srcF s (numV s 2 (stepS s 1 (stepS s 1 t))) (stepS s 16 (stepS s 2 (stepS s 1 (stepS s 1 t))))).2,
    ⟨_, _, _, _, numC (by omega) hs hk, numC (by omega) hs (stepS_k hk), numC (by omega) hs (stepS_k (stepS_k hk)), addrC hs (stepS_k (stepS_k (stepS_k hk))), srcC (numV_lt s 2 _) hs (stepS_k (stepS_k (stepS_k (stepS_k hk)))) rfl⟩, numV_lt s 1 _, numV_lt s 1 _, srcF_k (stepS_k (stepS_k (stepS_k (stepS_k hk)))), rfl⟩
theorem stepS_eq (n : Nat) (t : St) : stepS s n t = ⟨rdK s t.k t.b n, rdB s t.k t.b n, (failS (rdB s t.k t.b n) 3 ⟨rdK s t.k t.b n, rdB s t.k t.b n, t.e⟩).e⟩ := by
  unfold stepS
  generalize rdK s t.k t.b n = x
  generalize rdB s t.k t.b n = y
  unfold failS
  split <;> rfl
end
end
end Go.Proofs.YtdnehjhijmeihaaGreat.V
