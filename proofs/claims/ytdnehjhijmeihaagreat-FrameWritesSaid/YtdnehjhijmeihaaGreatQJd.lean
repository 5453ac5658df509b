/-
  Joined texts: Jd.
-/
import Derived.Test.YtdnehjhijmeihaaGreatQGp
import Derived.Test.YtdnehjhijmeihaaGreatQVp
import Derived.Test.YtdnehjhijmeihaaGreatQTh4
import Derived.Test.YtdnehjhijmeihaaGreatQTi4j
import Derived.Test.YtdnehjhijmeihaaGreatQJf
namespace Go.Proofs.YtdnehjhijmeihaaGreat
open Go.ChangeShapes Go.WideShapes Go.ChangeAt Go.RowKit
set_option linter.unusedVariables false
set_option linter.unusedSimpArgs false
set_option maxRecDepth 20000
set_option maxHeartbeats 8000000
attribute [local irreducible] wpList
def onA (v6 : Bool) (last : UInt8) : Ad := if v6 then ⟨true, [255, 2, 0, 0, 0, 0, 0, 0, 0, 0, 0, 0, 0, 0, 0, last], rfl⟩ else ⟨false, [224, 0, 0, last, 0, 0, 0, 0, 0, 0, 0, 0, 0, 0, 0, 0], rfl⟩
def lastT (T : Tk) : Bool := T.ver == 3 || (T.v6 && T.ver == 2)
noncomputable def goodT (T : Tk) : Bool := if T.v6 then good6 T else good4 T
def destA (T : Tk) : Ad := if (T.kind == 1 && zeroA T.grp.b) = true then onA T.v6 1 else if (T.kind == 3) = true then onA T.v6 2 else if (T.kind == 2 && lastT T) = true then onA T.v6 22 else T.grp
section
variable {w : World} {sp rp : Option Addr} {sc rc : Nat} {T : Tk}
theorem iGoodF_any (h1 : AdsAt w sp T.src) (h2 : RcsAt w rp T.recs) : Gives Tryz.prog 163 #[.agg (fls (tkS T sp sc rp rc)).toArray] w (.bool (good4 T)) := by
  have F := Lib.hid (fun W' (hb : Below w.heap.size w W') => igood_any (T := T) (sc := sc) (rc := rc) (h1.below hb) (h2.below hb))
  refine Gives.of ?_
  have hH := Hp.refl w
  clear h1 h2
  generalize good4 T = g at *
  obtain ⟨v6, ver, kind, resp, G, quiet, rob, every, src, recs⟩ := T
  unfold tkS at *
  have oG := adL_ok G
  simp only at *
  generalize adL G = Y at *
  go_enter Tryz.func163, Tryz.ntmps163
  go_wp2_with (first | (refine st ?_; clear hH; first | intro W g hH | intro W hH) | ((with_reducible refine callH hH ?_); refine ⟨?_, ?_, ?_⟩; rotate_left; (focus (first | (exact F.out _ hH.below))); (clear hH; first | intro W g hH | intro W hH); ((try simp only [Act.put, pA, pB, pC]))))
  go_ret
  exact ⟨rfl, hH.below⟩
theorem goodTalk_any (h1 : AdsAt w sp T.src) (h2 : RcsAt w rp T.recs) : Gives Tryz.prog 121 #[.agg (fls (tkS T sp sc rp rc)).toArray] w (.bool (goodT T)) := by
  have F4 := Lib.hid (fun W' (hb : Below w.heap.size w W') => iGoodF_any (T := T) (sc := sc) (rc := rc) (h1.below hb) (h2.below hb))
  have F6 := Lib.hid (fun W' (hb : Below w.heap.size w W') => V.vGood_any (T := T) (sc := sc) (rc := rc) (h1.below hb) (h2.below hb))
  refine Gives.of ?_
  have hH := Hp.refl w
  clear h1 h2
  unfold goodT
  generalize good4 T = g4 at *
  generalize good6 T = g6 at *
  obtain ⟨v6, ver, kind, resp, G, quiet, rob, every, src, recs⟩ := T
  unfold tkS at *
  have oG := adL_ok G
  simp only at *
  generalize adL G = Y at *
  cases v6
  all_goals
    go_enter Tryz.func121, Tryz.ntmps121
    go_wp2_with (first | (refine st ?_; clear hH; first | intro W g hH | intro W hH) | ((with_reducible refine callH hH ?_); refine ⟨?_, ?_, ?_⟩; rotate_left; (focus (first | (exact F4.out _ hH.below) | (exact F6.out _ hH.below))); (clear hH; first | intro W g hH | intro W hH); ((try simp only [Act.put, pA, pB, pC]))))
    go_ret
    exact ⟨rfl, hH.below⟩
theorem refTalk_any (hT : T.Ok) (h1 : AdsAt w sp T.src) (h2 : RcsAt w rp T.recs) : Gives Tryz.prog 38 #[.agg (fls (tkS T sp sc rp rc)).toArray] w (.bool (goodT T)) := by
  have F4 := Lib.hid (fun W' (hb : Below w.heap.size w W') => rgood4_any (T := T) (sc := sc) (rc := rc) hT (h1.below hb) (h2.below hb))
  have F6 := Lib.hid (fun W' (hb : Below w.heap.size w W') => rgood6_any (T := T) (sc := sc) (rc := rc) hT (h1.below hb) (h2.below hb))
  refine Gives.of ?_
  have hH := Hp.refl w
  clear h1 h2 hT
  unfold goodT
  generalize good4 T = g4 at *
  generalize good6 T = g6 at *
  obtain ⟨v6, ver, kind, resp, G, quiet, rob, every, src, recs⟩ := T
  unfold tkS at *
  have oG := adL_ok G
  simp only at *
  generalize adL G = Y at *
  cases v6 <;> cases g4 <;> cases g6
  all_goals
    go_enter Tryz.func38, Tryz.ntmps38
    go_wp2_with (first | (refine st ?_; clear hH; first | intro W g hH | intro W hH) | ((with_reducible refine callH hH ?_); refine ⟨?_, ?_, ?_⟩; rotate_left; (focus (first | (exact F4.out _ hH.below) | (exact F6.out _ hH.below))); (clear hH; first | intro W g hH | intro W hH); ((try simp only [Act.put, pA, pB, pC]))))
    go_ret
    exact ⟨rfl, hH.below⟩
end
section
variable {w : World} {sp rp : Option Addr} {sc rc : Nat} {T : Tk}
theorem far_any {b : UInt8} : Gives Tryz.prog 122 #[.int .u8 (b.toNat : Int)] w (.agg (fls [.many (adL (onA true b)) 17]).toArray) := by
  refine Gives.of ?_
  have hH := Hp.refl w
  have e1 : (fls [.many (adL (onA true b)) 17]).toArray = (fls [.one (.bool true), .many [.int .u8 255, .int .u8 2, .int .u8 0, .int .u8 0, .int .u8 0, .int .u8 0, .int .u8 0, .int .u8 0, .int .u8 0, .int .u8 0, .int .u8 0, .int .u8 0, .int .u8 0, .int .u8 0, .int .u8 0, .int .u8 (b.toNat : Int)] 16]).toArray := rfl
  rw [e1]
  generalize (b.toNat : Int) = k at *
  go_enter Tryz.func122, Tryz.ntmps122
  go_wp2_with (refine st ?_; clear hH; first | intro W g hH | intro W hH)
  (refine iRet Tryz.results122 tab_ok rfl rfl hH ?_; refine ⟨_, _, rfl, rfl, rfl, ?_⟩)
  exact ⟨rfl, hH.below⟩
theorem near_any {b : UInt8} : Gives Tryz.prog 123 #[.int .u8 (b.toNat : Int)] w (.agg (fls [.many (adL (onA false b)) 17]).toArray) := by
  refine Gives.of ?_
  have hH := Hp.refl w
  have f : ∀ w, Gives Tryz.prog 120 #[.int .u8 224, .int .u8 0, .int .u8 0, .int .u8 (b.toNat : Int)] w (.agg (fls [.many (adL (onA false b)) 17]).toArray) := fun w => aIp4_any (a := 224) (b := 0) (c := 0) (d := b)
  have oN := adL_ok (onA false b)
  generalize adL (onA false b) = Y at *
  generalize (b.toNat : Int) = k at *
  go_enter Tryz.func123, Tryz.ntmps123
  go_wp2_with (refine st ?_; clear hH; first | intro W g hH | intro W hH)
  (refine iRet Tryz.results123 tab_ok rfl rfl hH ?_; refine ⟨_, _, rfl, rfl, rfl, ?_⟩)
  exact ⟨rfl, hH.below⟩
theorem on_any {v : Bool} {b : UInt8} : Gives Tryz.prog 86 #[.bool v, .int .u8 (b.toNat : Int)] w (.agg (fls [.many (adL (onA v b)) 17]).toArray) := by
  refine Gives.of ?_
  have hH := Hp.refl w
  have oZ : OkA (zeroL Tryz.prog 23) 16 := OkA.z (by kernel_rfl) (by kernel_rfl)
  have e0 := Lib.hid (show ∀ k : Int, (fls [.one (.bool false), .many (((zeroL Tryz.prog 23).set 0 (.int .u8 224)).set 3 (.int .u8 k)) 16]).toArray = (fls [.one (.bool false), .many [.int .u8 224, .int .u8 0, .int .u8 0, .int .u8 k, .int .u8 0, .int .u8 0, .int .u8 0, .int .u8 0, .int .u8 0, .int .u8 0, .int .u8 0, .int .u8 0, .int .u8 0, .int .u8 0, .int .u8 0, .int .u8 0] 16]).toArray from fun k => by kernel_rfl)
  have e1 := Lib.hid (show ∀ k : Int, (fls [.one (.bool true), .many ((((zeroL Tryz.prog 23).set 0 (.int .u8 255)).set 1 (.int .u8 2)).set 15 (.int .u8 k)) 16]).toArray = (fls [.one (.bool true), .many [.int .u8 255, .int .u8 2, .int .u8 0, .int .u8 0, .int .u8 0, .int .u8 0, .int .u8 0, .int .u8 0, .int .u8 0, .int .u8 0, .int .u8 0, .int .u8 0, .int .u8 0, .int .u8 0, .int .u8 0, .int .u8 k] 16]).toArray from fun k => by kernel_rfl)
  generalize hZ0 : zeroL Tryz.prog 23 = Z at *
  have HZ := Lib.hid hZ0
  clear hZ0
  cases v
  · have e2 : (fls [.many (adL (onA false b)) 17]).toArray = (fls [.one (.bool false), .many [.int .u8 224, .int .u8 0, .int .u8 0, .int .u8 (b.toNat : Int), .int .u8 0, .int .u8 0, .int .u8 0, .int .u8 0, .int .u8 0, .int .u8 0, .int .u8 0, .int .u8 0, .int .u8 0, .int .u8 0, .int .u8 0, .int .u8 0] 16]).toArray := rfl
    rw [e2, ← e0.out]
    generalize (b.toNat : Int) = k at *
    go_enter Tryz.func86, Tryz.ntmps86
    go_wp2_with (first | ((refine gS rfl ?_; refine hSx1Z tab_ok 0 rfl ?_ rfl rfl hH rfl rfl rfl ?_; (focus first|exact wN rfl|exact rfl); refine ⟨?_, ?_, ?_⟩; (focus (first | decide | omega)); (focus (first | decide | omega)); intro W H' oA' hu h; (obtain rfl := Option.some.inj hu); clear hu hH; have hH := h; clear h; ((try simp only [Act.put, pA, pB, pC])))) | (refine st ?_; clear hH; first | intro W g hH | intro W hH))
    (refine iRet Tryz.results86 tab_ok rfl rfl hH ?_; refine ⟨_, _, rfl, rfl, rfl, ?_⟩)
    exact ⟨by have h := HZ.out; subst h; rfl, hH.below⟩
  · have e2 : (fls [.many (adL (onA true b)) 17]).toArray = (fls [.one (.bool true), .many [.int .u8 255, .int .u8 2, .int .u8 0, .int .u8 0, .int .u8 0, .int .u8 0, .int .u8 0, .int .u8 0, .int .u8 0, .int .u8 0, .int .u8 0, .int .u8 0, .int .u8 0, .int .u8 0, .int .u8 0, .int .u8 (b.toNat : Int)] 16]).toArray := rfl
    rw [e2, ← e1.out]
    generalize (b.toNat : Int) = k at *
    go_enter Tryz.func86, Tryz.ntmps86
    go_wp2_with (first | ((refine gS rfl ?_; refine hSx1Z tab_ok 0 rfl ?_ rfl rfl hH rfl rfl rfl ?_; (focus first|exact wN rfl|exact rfl); refine ⟨?_, ?_, ?_⟩; (focus (first | decide | omega)); (focus (first | decide | omega)); intro W H' oA' hu h; (obtain rfl := Option.some.inj hu); clear hu hH; have hH := h; clear h; ((try simp only [Act.put, pA, pB, pC])))) | (refine st ?_; clear hH; first | intro W g hH | intro W hH))
    (refine iRet Tryz.results86 tab_ok rfl rfl hH ?_; refine ⟨_, _, rfl, rfl, rfl, ?_⟩)
    exact ⟨by have h := HZ.out; subst h; rfl, hH.below⟩
theorem dest_any (h1 : AdsAt w sp T.src) (h2 : RcsAt w rp T.recs) : Gives Tryz.prog 72 #[.agg (fls (tkS T sp sc rp rc)).toArray] w (.tuple #[.agg (fls [.many (adL (if goodT T then destA T else Ad.z)) 17]).toArray, .bool (goodT T)]) := by
  have FG := Lib.hid (fun W' (hb : Below w.heap.size w W') => goodTalk_any (T := T) (sc := sc) (rc := rc) (h1.below hb) (h2.below hb))
  refine Gives.of ?_
  have hH := Hp.refl w
  clear h1 h2
  have fz : ∀ w, Gives Tryz.prog 74 #[.agg (fls [.many (adL T.grp) 17]).toArray] w (.bool (zeroA T.grp.b)) := fun w => by rw [← rg_segs]; exact aZero_any T.grp.h
  have f1 : ∀ w, Gives Tryz.prog 122 #[.int .u8 1] w (.agg (fls [.many (adL (onA true 1)) 17]).toArray) := fun w => far_any (b := 1)
  have f2 : ∀ w, Gives Tryz.prog 122 #[.int .u8 2] w (.agg (fls [.many (adL (onA true 2)) 17]).toArray) := fun w => far_any (b := 2)
  have f3 : ∀ w, Gives Tryz.prog 122 #[.int .u8 22] w (.agg (fls [.many (adL (onA true 22)) 17]).toArray) := fun w => far_any (b := 22)
  have n1 : ∀ w, Gives Tryz.prog 123 #[.int .u8 1] w (.agg (fls [.many (adL (onA false 1)) 17]).toArray) := fun w => near_any (b := 1)
  have n2 : ∀ w, Gives Tryz.prog 123 #[.int .u8 2] w (.agg (fls [.many (adL (onA false 2)) 17]).toArray) := fun w => near_any (b := 2)
  have n3 : ∀ w, Gives Tryz.prog 123 #[.int .u8 22] w (.agg (fls [.many (adL (onA false 22)) 17]).toArray) := fun w => near_any (b := 22)
  obtain ⟨v6, ver, kind, resp, G, quiet, rob, every, src, recs⟩ := T
  have oG := adL_ok G
  have a1 := adL_ok (onA true 1)
  have a2 := adL_ok (onA true 2)
  have a3 := adL_ok (onA true 22)
  have b1 := adL_ok (onA false 1)
  have b2 := adL_ok (onA false 2)
  have b3 := adL_ok (onA false 22)
  have oZ := adL_ok Ad.z
  have eZ := adL_z
  generalize goodT ⟨v6, ver, kind, resp, G, quiet, rob, every, src, recs⟩ = gd at *
  unfold destA lastT
  unfold tkS at *
  simp only at *
  generalize zeroA G.b = z at *
  cases gd
  · have hzz : adL (if false = true then (if (kind == 1 && z) = true then onA v6 1 else if (kind == 3) = true then onA v6 2 else if (kind == 2 && (ver == 3 || v6 && ver == 2)) = true then onA v6 22 else G) else Ad.z) = adL Ad.z := rfl
    rw [hzz]
    generalize adL G = Y at *
    rw [eZ]
    go_enter Tryz.func72, Tryz.ntmps72
    go_wp2_with (first | (refine st ?_; clear hH; first | intro W g hH | intro W hH) | ((with_reducible refine callH hH ?_); refine ⟨?_, ?_, ?_⟩; rotate_left; (focus (first | (exact FG.out _ hH.below))); (clear hH; first | intro W g hH | intro W hH); ((try simp only [Act.put, pA, pB, pC]))))
    (refine iRet2 Tryz.results72 tab_ok rfl rfl hH ?_; refine ⟨_, _, rfl, rfl, rfl, ?_⟩)
    exact ⟨rfl, hH.below⟩
  · rw [if_pos rfl]
    have hk : ((kind == 1) = true ∧ (kind == 3) = false ∧ (kind == 2) = false ∧ z = true) ∨ ((kind == 1) = true ∧ (kind == 3) = false ∧ (kind == 2) = false ∧ z = false) ∨ ((kind == 1) = false ∧ (kind == 3) = true ∧ (kind == 2) = false ∧ z = z) ∨ ((kind == 1) = false ∧ (kind == 3) = false ∧ (kind == 2) = true ∧ z = z) ∨ ((kind == 1) = false ∧ (kind == 3) = false ∧ (kind == 2) = false ∧ z = z) := by
      by_cases h1 : kind = 1
      · subst h1; cases z <;> simp
      · by_cases h3 : kind = 3
        · subst h3; simp
        · by_cases h2 : kind = 2
          · subst h2; simp
          · simp [h1, h2, h3]
    have hv : ((ver == 3) = true ∧ (ver == 2) = (ver == 2)) ∨ ((ver == 3) = false ∧ (ver == 2) = true) ∨ ((ver == 3) = false ∧ (ver == 2) = false) := by
      cases (ver == 3) <;> cases (ver == 2) <;> simp
    obtain ⟨D, hD⟩ : ∃ D, D = (if (kind == 1 && z) = true then onA v6 1 else if (kind == 3) = true then onA v6 2 else if (kind == 2 && (ver == 3 || v6 && ver == 2)) = true then onA v6 22 else G) := ⟨_, rfl⟩
    rw [← hD]
    obtain ⟨A1, hA1⟩ : ∃ A, adL (onA true 1) = A := ⟨_, rfl⟩
    rw [hA1] at f1 a1
    have HA1 := Lib.hid hA1
    clear hA1
    obtain ⟨A2, hA2⟩ : ∃ A, adL (onA true 2) = A := ⟨_, rfl⟩
    rw [hA2] at f2 a2
    have HA2 := Lib.hid hA2
    clear hA2
    obtain ⟨A3, hA3⟩ : ∃ A, adL (onA true 22) = A := ⟨_, rfl⟩
    rw [hA3] at f3 a3
    have HA3 := Lib.hid hA3
    clear hA3
    obtain ⟨B1, hB1⟩ : ∃ A, adL (onA false 1) = A := ⟨_, rfl⟩
    rw [hB1] at n1 b1
    have HB1 := Lib.hid hB1
    clear hB1
    obtain ⟨B2, hB2⟩ : ∃ A, adL (onA false 2) = A := ⟨_, rfl⟩
    rw [hB2] at n2 b2
    have HB2 := Lib.hid hB2
    clear hB2
    obtain ⟨B3, hB3⟩ : ∃ A, adL (onA false 22) = A := ⟨_, rfl⟩
    rw [hB3] at n3 b3
    have HB3 := Lib.hid hB3
    clear hB3
    rcases hk with ⟨e1, e3, e2, hz⟩ | ⟨e1, e3, e2, hz⟩ | ⟨e1, e3, e2, hz⟩ | ⟨e1, e3, e2, hz⟩ | ⟨e1, e3, e2, hz⟩
    all_goals
      rcases hv with ⟨v3, -⟩ | ⟨v3, v2⟩ | ⟨v3, v2⟩
      all_goals
        rw [e1, e2, e3, v3, hz] at hD
        try rw [v2] at hD
        cases v6
        all_goals
          have HD := Lib.hid hD
          clear hD
          try subst hz
          try clear hz
          have oD := adL_ok G
          go_enter Tryz.func72, Tryz.ntmps72
          go_wp2_with (first | (refine st ?_; clear hH; first | intro W g hH | intro W hH) | ((with_reducible refine callH hH ?_); refine ⟨?_, ?_, ?_⟩; rotate_left; (focus (first | (exact FG.out _ hH.below))); (clear hH; first | intro W g hH | intro W hH); ((try simp only [Act.put, pA, pB, pC]))))
          (refine iRet2 Tryz.results72 tab_ok rfl rfl hH ?_; refine ⟨_, _, rfl, rfl, rfl, ?_⟩)
          refine ⟨?_, hH.below⟩
          first
            | (rw [show D = onA true 1 from HD.out, HA1.out]; done)
            | (rw [show D = onA true 1 from HD.out, HA1.out]; rfl)
            | (rw [show D = onA true 2 from HD.out, HA2.out]; done)
            | (rw [show D = onA true 2 from HD.out, HA2.out]; rfl)
            | (rw [show D = onA true 22 from HD.out, HA3.out]; done)
            | (rw [show D = onA true 22 from HD.out, HA3.out]; rfl)
            | (rw [show D = onA false 1 from HD.out, HB1.out]; done)
            | (rw [show D = onA false 1 from HD.out, HB1.out]; rfl)
            | (rw [show D = onA false 2 from HD.out, HB2.out]; done)
            | (rw [show D = onA false 2 from HD.out, HB2.out]; rfl)
            | (rw [show D = onA false 22 from HD.out, HB3.out]; done)
            | (rw [show D = onA false 22 from HD.out, HB3.out]; rfl)
            | (rw [show D = G from HD.out]; done)
            | (rw [show D = G from HD.out]; rfl)
theorem rDest_any : Gives Tryz.prog 39 #[.agg (fls (tkS T sp sc rp rc)).toArray] w (.agg (fls [.many (adL (destA T)) 17]).toArray) := by
  refine Gives.of ?_
  have hH := Hp.refl w
  have fz : ∀ w, Gives Tryz.prog 40 #[.agg (fls [.many (adL T.grp) 17]).toArray] w (.bool (zeroA T.grp.b)) := fun w => by rw [← rg_segs]; exact raZero_any T.grp.h
  have f1 : ∀ w, Gives Tryz.prog 86 #[.bool T.v6, .int .u8 1] w (.agg (fls [.many (adL (onA T.v6 1)) 17]).toArray) := fun w => on_any (b := 1)
  have f2 : ∀ w, Gives Tryz.prog 86 #[.bool T.v6, .int .u8 2] w (.agg (fls [.many (adL (onA T.v6 2)) 17]).toArray) := fun w => on_any (b := 2)
  have f3 : ∀ w, Gives Tryz.prog 86 #[.bool T.v6, .int .u8 22] w (.agg (fls [.many (adL (onA T.v6 22)) 17]).toArray) := fun w => on_any (b := 22)
  obtain ⟨v6, ver, kind, resp, G, quiet, rob, every, src, recs⟩ := T
  have oG := adL_ok G
  have a1 := adL_ok (onA v6 1)
  have a2 := adL_ok (onA v6 2)
  have a3 := adL_ok (onA v6 22)
  unfold destA lastT
  unfold tkS at *
  simp only at *
  generalize zeroA G.b = z at *
  have hk : ((kind == 1) = true ∧ (kind == 3) = false ∧ (kind == 2) = false ∧ z = true) ∨ ((kind == 1) = true ∧ (kind == 3) = false ∧ (kind == 2) = false ∧ z = false) ∨ ((kind == 1) = false ∧ (kind == 3) = true ∧ (kind == 2) = false ∧ z = z) ∨ ((kind == 1) = false ∧ (kind == 3) = false ∧ (kind == 2) = true ∧ z = z) ∨ ((kind == 1) = false ∧ (kind == 3) = false ∧ (kind == 2) = false ∧ z = z) := by
    by_cases h1 : kind = 1
    · subst h1; cases z <;> simp
    · by_cases h3 : kind = 3
      · subst h3; simp
      · by_cases h2 : kind = 2
        · subst h2; simp
        · simp [h1, h2, h3]
  have hv : ((ver == 3) = true ∧ (ver == 2) = (ver == 2)) ∨ ((ver == 3) = false ∧ (ver == 2) = true) ∨ ((ver == 3) = false ∧ (ver == 2) = false) := by
    cases (ver == 3) <;> cases (ver == 2) <;> simp
  obtain ⟨D, hD⟩ : ∃ D, D = (if (kind == 1 && z) = true then onA v6 1 else if (kind == 3) = true then onA v6 2 else if (kind == 2 && (ver == 3 || v6 && ver == 2)) = true then onA v6 22 else G) := ⟨_, rfl⟩
  rw [← hD]
  obtain ⟨A1, hA1⟩ : ∃ A, adL (onA v6 1) = A := ⟨_, rfl⟩
  rw [hA1] at f1 a1
  have HA1 := Lib.hid hA1
  clear hA1
  obtain ⟨A2, hA2⟩ : ∃ A, adL (onA v6 2) = A := ⟨_, rfl⟩
  rw [hA2] at f2 a2
  have HA2 := Lib.hid hA2
  clear hA2
  obtain ⟨A3, hA3⟩ : ∃ A, adL (onA v6 22) = A := ⟨_, rfl⟩
  rw [hA3] at f3 a3
  have HA3 := Lib.hid hA3
  clear hA3
  rcases hk with ⟨e1, e3, e2, hz⟩ | ⟨e1, e3, e2, hz⟩ | ⟨e1, e3, e2, hz⟩ | ⟨e1, e3, e2, hz⟩ | ⟨e1, e3, e2, hz⟩
  all_goals
    rcases hv with ⟨v3, -⟩ | ⟨v3, v2⟩ | ⟨v3, v2⟩
    all_goals
      rw [e1, e2, e3, v3, hz] at hD
      try rw [v2] at hD
      cases v6
      all_goals
        have HD := Lib.hid hD
        clear hD
        try subst hz
        try clear hz
        have oD := adL_ok G
        go_enter Tryz.func39, Tryz.ntmps39
        go_wp2_with (refine st ?_; clear hH; first | intro W g hH | intro W hH)
        (refine iRet Tryz.results39 tab_ok rfl rfl hH ?_; refine ⟨_, _, rfl, rfl, rfl, ?_⟩)
        refine ⟨?_, hH.below⟩
        first
          | (rw [show D = onA false 1 from HD.out, HA1.out]; done)
          | (rw [show D = onA true 1 from HD.out, HA1.out]; done)
          | (rw [show D = onA false 1 from HD.out, HA1.out]; rfl)
          | (rw [show D = onA true 1 from HD.out, HA1.out]; rfl)
          | (rw [show D = onA false 2 from HD.out, HA2.out]; done)
          | (rw [show D = onA true 2 from HD.out, HA2.out]; done)
          | (rw [show D = onA false 2 from HD.out, HA2.out]; rfl)
          | (rw [show D = onA true 2 from HD.out, HA2.out]; rfl)
          | (rw [show D = onA false 22 from HD.out, HA3.out]; done)
          | (rw [show D = onA true 22 from HD.out, HA3.out]; done)
          | (rw [show D = onA false 22 from HD.out, HA3.out]; rfl)
          | (rw [show D = onA true 22 from HD.out, HA3.out]; rfl)
          | (rw [show D = G from HD.out]; done)
          | (rw [show D = G from HD.out]; rfl)
end
end Go.Proofs.YtdnehjhijmeihaaGreat
