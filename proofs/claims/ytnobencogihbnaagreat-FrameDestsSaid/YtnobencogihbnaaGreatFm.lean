/-
  'FrameDests': to whom any talk is sent: the law.
-/
import Derived.Test.YtnobencogihbnaaGreatFa
import Derived.Test.YtnobencogihbnaaGreatFk
import Derived.Test.YtnobencogihbnaaGreatFr
import Derived.Test.YtnobencogihbnaaGreatTf
namespace Go.Proofs.YtnobencogihbnaaGreat
open Go.ChangeShapes Go.WideShapes Go.ChangeAt Go.RowKit
set_option linter.unusedVariables false
set_option linter.unusedSimpArgs false
set_option maxRecDepth 20000
attribute [local irreducible] wpList

theorem own : ownKnob Tryz.prog.godebug = none := by kernel_rfl
theorem fewR_idem (r : Rc) : fewR (fewR r) = fewR r := by unfold fewR; simp [List.take_take]
theorem fewT_idem (T : Tk) : fewT (fewT T) = fewT T := by
  unfold fewT
  simp only [List.take_take, List.map_take, List.map_map, Nat.min_self]
  congr 2
  exact List.map_congr_left fun r _ => fewR_idem r
theorem fewT_ok {T : Tk} (h : T.Ok) : (fewT T).Ok := ⟨h.ver, h.kind, h.resp, h.rob, h.every, fun r hr => by
  obtain ⟨s, hs, rfl⟩ := List.mem_map.1 hr
  exact h.recs s (List.mem_of_mem_take hs)⟩
section
variable {B : Nat} {w0 W w : World} {H : HB} {T : Tk} {sp rp : Option Addr} {sc rc : Nat} {Q : Ending → World → Prop}
theorem hFewI (hF : fewT T = T) (hH : Hp B w0 W H) (hS : AdsAt W sp T.src) (hR : RcsAt W rp T.recs) (h : ∀ W' sp sc rp rc D, Hid (TkIn D sp rp T) → Hp B w0 W' (H ++ D) → Q (.returned (.agg (fls (tkS T sp sc rp rc)).toArray)) W') :
    Calls Tryz.prog 4 #[.agg (fls (tkS T sp sc rp rc)).toArray] W Q := by
  refine hFew hH hS hR ?_
  rw [hF]
  exact h
theorem dDest_any (h1 : AdsAt w sp T.src) (h2 : RcsAt w rp T.recs) : Gives Tryz.prog 5 #[.agg (fls (tkS T sp sc rp rc)).toArray] w (.tuple #[.agg (fls [.many (adL (if goodT T then destA T else Ad.z)) 17]).toArray, .bool (goodT T)]) := by
  have F := Lib.hid (fun W' (hb : Below w.heap.size w W') => dest_any (T := T) (sc := sc) (rc := rc) (h1.below hb) (h2.below hb))
  refine Gives.of ?_
  have hH := Hp.refl w
  clear h1 h2
  have oD := adL_ok (if goodT T then destA T else Ad.z)
  generalize adL (if goodT T then destA T else Ad.z) = Y at *
  generalize goodT T = gd at *
  obtain ⟨v6, ver, kind, resp, G, quiet, rob, every, src, recs⟩ := T
  unfold tkS at *
  have oG := adL_ok G
  simp only at *
  generalize adL G = Z at *
  go_enter Tryz.func5, Tryz.ntmps5
  go_wp2_with (first | ((first | (refine gL rfl ?_; first | (refine hL1 tab_ok 0 rfl ?_ rfl hH rfl rfl rfl rfl ?_; (focus (first | exact wN rfl | exact rfl))) | (refine hL1 tab_ok 1 rfl ?_ rfl hH rfl rfl rfl rfl ?_; (focus (first | exact wN rfl | exact rfl))) | (refine hL1 tab_ok 2 rfl ?_ rfl hH rfl rfl rfl rfl ?_; (focus (first | exact wN rfl | exact rfl))) | (refine hLR tab_ok 0 rfl ?_ rfl hH rfl rfl rfl rfl ?_; (focus (first | exact wN rfl | exact rfl))) | (refine hLR tab_ok 1 rfl ?_ rfl hH rfl rfl rfl rfl ?_; (focus (first | exact wN rfl | exact rfl))) | (refine hLR tab_ok 2 rfl ?_ rfl hH rfl rfl rfl rfl ?_; (focus (first | exact wN rfl | exact rfl))) | (refine hL1i tab_ok 0 rfl ?_ rfl hH rfl rfl rfl rfl ?_; (focus (first | exact wN rfl | exact rfl)); refine ⟨?_, ?_, ?_⟩; rotate_left; (focus assumption)) | (refine hL1i tab_ok 1 rfl ?_ rfl hH rfl rfl rfl rfl ?_; (focus (first | exact wN rfl | exact rfl)); refine ⟨?_, ?_, ?_⟩; rotate_left; (focus assumption)) | (refine hL1i tab_ok 2 rfl ?_ rfl hH rfl rfl rfl rfl ?_; (focus (first | exact wN rfl | exact rfl)); refine ⟨?_, ?_, ?_⟩; rotate_left; (focus assumption))) | (refine gS rfl ?_; first | (refine hS1 tab_ok 0 rfl ?_ rfl rfl hH rfl rfl rfl rfl rfl ?_; (focus (first | exact wN rfl | exact rfl))) | (refine hS1 tab_ok 1 rfl ?_ rfl rfl hH rfl rfl rfl rfl rfl ?_; (focus (first | exact wN rfl | exact rfl))) | (refine hS1 tab_ok 2 rfl ?_ rfl rfl hH rfl rfl rfl rfl rfl ?_; (focus (first | exact wN rfl | exact rfl))) | (refine hSR tab_ok 0 rfl ?_ rfl rfl hH rfl rfl rfl rfl rfl ?_ ?_; (focus (first | exact wN rfl | exact rfl)); (focus (repeat (first | exact trivial | assumption | exact OkA.z (by kernel_rfl) (by kernel_rfl) | refine ⟨rfl, ?_⟩ | refine ⟨?_, ?_⟩)))) | (refine hSR tab_ok 1 rfl ?_ rfl rfl hH rfl rfl rfl rfl rfl ?_ ?_; (focus (first | exact wN rfl | exact rfl)); (focus (repeat (first | exact trivial | assumption | exact OkA.z (by kernel_rfl) (by kernel_rfl) | refine ⟨rfl, ?_⟩ | refine ⟨?_, ?_⟩)))) | (refine hSR tab_ok 2 rfl ?_ rfl rfl hH rfl rfl rfl rfl rfl ?_ ?_; (focus (first | exact wN rfl | exact rfl)); (focus (repeat (first | exact trivial | assumption | exact OkA.z (by kernel_rfl) (by kernel_rfl) | refine ⟨rfl, ?_⟩ | refine ⟨?_, ?_⟩))))) | (refine hAl tab_ok rfl ?_ hH rfl ?_; (focus (first | exact wN rfl | exact rfl))) | (refine hBx1 rfl ?_ rfl hH ?_; (focus (first | exact wN rfl | exact rfl))) | (refine hBx rfl ?_ rfl hH ?_ ?_; (focus (first | exact wN rfl | exact rfl)); (focus (repeat (first | exact trivial | assumption | exact OkA.z (by kernel_rfl) (by kernel_rfl) | refine ⟨rfl, ?_⟩ | refine ⟨?_, ?_⟩)))) | (refine hBd tab_ok rfl ?_ rfl rfl rfl hH ?_; (focus (first | exact wN rfl | exact rfl)); refine ⟨?_, ?_, ?_⟩; rotate_left; (focus (repeat (first | exact BR.nil | refine BR.one rfl rfl rfl ?_ | (refine BR.row rfl rfl rfl rfl ?_ ?_; (focus (repeat (first | exact trivial | assumption | exact OkA.z (by kernel_rfl) (by kernel_rfl) | refine ⟨rfl, ?_⟩ | refine ⟨?_, ?_⟩)))))))) | ((with_reducible refine callH hH ?_); refine ⟨?_, ?_, ?_⟩; rotate_left; (focus (first | (exact F.out _ hH.below))))); clear hH; (first | intro W g hH | intro W hH); ((try simp only [Act.put, List.setIfInBounds_toArray, List.set_cons_succ, List.set_cons_zero]))))
  (first | refine retC2 Tryz.results5 tab_ok 0 rfl rfl hH rfl rfl rfl rfl ?_ | refine retC2 Tryz.results5 tab_ok 1 rfl rfl hH rfl rfl rfl rfl ?_ | refine retC2 Tryz.results5 tab_ok 2 rfl rfl hH rfl rfl rfl rfl ?_)
  exact ⟨rfl, hH.below⟩
set_option maxHeartbeats 4000000 in
theorem rDest_any : Gives Tryz.prog 8 #[.agg (fls (tkS T sp sc rp rc)).toArray] w (.agg (fls [.many (adL (destA T)) 17]).toArray) := by
  refine Gives.of ?_
  have hH := Hp.refl w
  have fz : ∀ w, Gives Tryz.prog 18 #[.agg (fls [.many (adL T.grp) 17]).toArray] w (.bool (zeroA T.grp.b)) := fun w => by rw [← rg_segs]; exact raZero_any T.grp.h
  have f1 : ∀ w, Gives Tryz.prog 17 #[.bool T.v6, .int .u8 1] w (.agg (fls [.many (adL (onA T.v6 1)) 17]).toArray) := fun w => on_any (b := 1)
  have f2 : ∀ w, Gives Tryz.prog 17 #[.bool T.v6, .int .u8 2] w (.agg (fls [.many (adL (onA T.v6 2)) 17]).toArray) := fun w => on_any (b := 2)
  have f3 : ∀ w, Gives Tryz.prog 17 #[.bool T.v6, .int .u8 22] w (.agg (fls [.many (adL (onA T.v6 22)) 17]).toArray) := fun w => on_any (b := 22)
  obtain ⟨v6, ver, kind, resp, G, quiet, rob, every, src, recs⟩ := T
  have oG := adL_ok G
  have a1 := adL_ok (onA v6 1)
  have a2 := adL_ok (onA v6 2)
  have a3 := adL_ok (onA v6 22)
  unfold destA lastT
  unfold tkS at *
  simp only at *
  generalize zeroA G.b = z at *
  have hk : ((kind == 1) = true ∧ (kind == 3) = false ∧ (kind == 2) = false ∧ z = true) ∨ ((kind == 1) = true ∧ (kind == 3) = false ∧ (kind == 2) = false ∧ z = false) ∨ ((kind == 1) = false ∧ (kind == 3) = true ∧ (kind == 2) = false ∧ z = z) ∨ ((kind == 1) = false ∧ (kind == 3) = false ∧ (kind == 2) = true ∧ z = z) ∨ ((kind == 1) = false ∧ (kind == 3) = false ∧ (kind == 2) = false ∧ z = z) := by
    by_cases h1 : kind = 1
    · subst h1; cases z <;> simp
    · by_cases h3 : kind = 3
      · subst h3; simp
      · by_cases h2 : kind = 2
        · subst h2; simp
        · simp [h1, h2, h3]
  have hv : ((ver == 3) = true ∧ (ver == 2) = (ver == 2)) ∨ ((ver == 3) = false ∧ (ver == 2) = true) ∨ ((ver == 3) = false ∧ (ver == 2) = false) := by
    cases (ver == 3) <;> cases (ver == 2) <;> simp
  obtain ⟨D, hD⟩ : ∃ D, D = (if (kind == 1 && z) = true then onA v6 1 else if (kind == 3) = true then onA v6 2 else if (kind == 2 && (ver == 3 || v6 && ver == 2)) = true then onA v6 22 else G) := ⟨_, rfl⟩
  rw [← hD]
  obtain ⟨A1, hA1⟩ : ∃ A, adL (onA v6 1) = A := ⟨_, rfl⟩
  rw [hA1] at f1 a1
  have HA1 := Lib.hid hA1
  clear hA1
  obtain ⟨A2, hA2⟩ : ∃ A, adL (onA v6 2) = A := ⟨_, rfl⟩
  rw [hA2] at f2 a2
  have HA2 := Lib.hid hA2
  clear hA2
  obtain ⟨A3, hA3⟩ : ∃ A, adL (onA v6 22) = A := ⟨_, rfl⟩
  rw [hA3] at f3 a3
  have HA3 := Lib.hid hA3
  clear hA3
  rcases hk with ⟨e1, e3, e2, hz⟩ | ⟨e1, e3, e2, hz⟩ | ⟨e1, e3, e2, hz⟩ | ⟨e1, e3, e2, hz⟩ | ⟨e1, e3, e2, hz⟩
  all_goals
    rcases hv with ⟨v3, -⟩ | ⟨v3, v2⟩ | ⟨v3, v2⟩
    all_goals
      rw [e1, e2, e3, v3, hz] at hD
      try rw [v2] at hD
      cases v6
      all_goals
        have HD := Lib.hid hD
        clear hD
        try subst hz
        try clear hz
        have oD := adL_ok G
        go_enter Tryz.func8, Tryz.ntmps8
        go_wp2_with (first | ((first | (refine gL rfl ?_; first | (refine hL1 tab_ok 0 rfl ?_ rfl hH rfl rfl rfl rfl ?_; (focus (first | exact wN rfl | exact rfl))) | (refine hL1 tab_ok 1 rfl ?_ rfl hH rfl rfl rfl rfl ?_; (focus (first | exact wN rfl | exact rfl))) | (refine hL1 tab_ok 2 rfl ?_ rfl hH rfl rfl rfl rfl ?_; (focus (first | exact wN rfl | exact rfl))) | (refine hLR tab_ok 0 rfl ?_ rfl hH rfl rfl rfl rfl ?_; (focus (first | exact wN rfl | exact rfl))) | (refine hLR tab_ok 1 rfl ?_ rfl hH rfl rfl rfl rfl ?_; (focus (first | exact wN rfl | exact rfl))) | (refine hLR tab_ok 2 rfl ?_ rfl hH rfl rfl rfl rfl ?_; (focus (first | exact wN rfl | exact rfl))) | (refine hL1i tab_ok 0 rfl ?_ rfl hH rfl rfl rfl rfl ?_; (focus (first | exact wN rfl | exact rfl)); refine ⟨?_, ?_, ?_⟩; rotate_left; (focus assumption)) | (refine hL1i tab_ok 1 rfl ?_ rfl hH rfl rfl rfl rfl ?_; (focus (first | exact wN rfl | exact rfl)); refine ⟨?_, ?_, ?_⟩; rotate_left; (focus assumption)) | (refine hL1i tab_ok 2 rfl ?_ rfl hH rfl rfl rfl rfl ?_; (focus (first | exact wN rfl | exact rfl)); refine ⟨?_, ?_, ?_⟩; rotate_left; (focus assumption))) | (refine gS rfl ?_; first | (refine hS1 tab_ok 0 rfl ?_ rfl rfl hH rfl rfl rfl rfl rfl ?_; (focus (first | exact wN rfl | exact rfl))) | (refine hS1 tab_ok 1 rfl ?_ rfl rfl hH rfl rfl rfl rfl rfl ?_; (focus (first | exact wN rfl | exact rfl))) | (refine hS1 tab_ok 2 rfl ?_ rfl rfl hH rfl rfl rfl rfl rfl ?_; (focus (first | exact wN rfl | exact rfl))) | (refine hSR tab_ok 0 rfl ?_ rfl rfl hH rfl rfl rfl rfl rfl ?_ ?_; (focus (first | exact wN rfl | exact rfl)); (focus (repeat (first | exact trivial | assumption | exact OkA.z (by kernel_rfl) (by kernel_rfl) | refine ⟨rfl, ?_⟩ | refine ⟨?_, ?_⟩)))) | (refine hSR tab_ok 1 rfl ?_ rfl rfl hH rfl rfl rfl rfl rfl ?_ ?_; (focus (first | exact wN rfl | exact rfl)); (focus (repeat (first | exact trivial | assumption | exact OkA.z (by kernel_rfl) (by kernel_rfl) | refine ⟨rfl, ?_⟩ | refine ⟨?_, ?_⟩)))) | (refine hSR tab_ok 2 rfl ?_ rfl rfl hH rfl rfl rfl rfl rfl ?_ ?_; (focus (first | exact wN rfl | exact rfl)); (focus (repeat (first | exact trivial | assumption | exact OkA.z (by kernel_rfl) (by kernel_rfl) | refine ⟨rfl, ?_⟩ | refine ⟨?_, ?_⟩))))) | (refine hAl tab_ok rfl ?_ hH rfl ?_; (focus (first | exact wN rfl | exact rfl))) | (refine hBx1 rfl ?_ rfl hH ?_; (focus (first | exact wN rfl | exact rfl))) | (refine hBx rfl ?_ rfl hH ?_ ?_; (focus (first | exact wN rfl | exact rfl)); (focus (repeat (first | exact trivial | assumption | exact OkA.z (by kernel_rfl) (by kernel_rfl) | refine ⟨rfl, ?_⟩ | refine ⟨?_, ?_⟩)))) | (refine hBd tab_ok rfl ?_ rfl rfl rfl hH ?_; (focus (first | exact wN rfl | exact rfl)); refine ⟨?_, ?_, ?_⟩; rotate_left; (focus (repeat (first | exact BR.nil | refine BR.one rfl rfl rfl ?_ | (refine BR.row rfl rfl rfl rfl ?_ ?_; (focus (repeat (first | exact trivial | assumption | exact OkA.z (by kernel_rfl) (by kernel_rfl) | refine ⟨rfl, ?_⟩ | refine ⟨?_, ?_⟩)))))))) | ((with_reducible refine callH hH ?_); refine ⟨?_, ?_, ?_⟩; rotate_left; (focus (first | (with_reducible exact fz _) | (with_reducible exact f1 _) | (with_reducible exact f2 _) | (with_reducible exact f3 _))))); clear hH; (first | intro W g hH | intro W hH); ((try simp only [Act.put, List.setIfInBounds_toArray, List.set_cons_succ, List.set_cons_zero]))))
        (first | refine retC Tryz.results8 tab_ok 0 rfl rfl hH rfl rfl rfl rfl ?_ | refine retC Tryz.results8 tab_ok 1 rfl rfl hH rfl rfl rfl rfl ?_ | refine retC Tryz.results8 tab_ok 2 rfl rfl hH rfl rfl rfl rfl ?_)
        refine ⟨?_, hH.below⟩
        first
          | (rw [show D = onA false 1 from HD.out, HA1.out]; done)
          | (rw [show D = onA true 1 from HD.out, HA1.out]; done)
          | (rw [show D = onA false 1 from HD.out, HA1.out]; rfl)
          | (rw [show D = onA true 1 from HD.out, HA1.out]; rfl)
          | (rw [show D = onA false 2 from HD.out, HA2.out]; done)
          | (rw [show D = onA true 2 from HD.out, HA2.out]; done)
          | (rw [show D = onA false 2 from HD.out, HA2.out]; rfl)
          | (rw [show D = onA true 2 from HD.out, HA2.out]; rfl)
          | (rw [show D = onA false 22 from HD.out, HA3.out]; done)
          | (rw [show D = onA true 22 from HD.out, HA3.out]; done)
          | (rw [show D = onA false 22 from HD.out, HA3.out]; rfl)
          | (rw [show D = onA true 22 from HD.out, HA3.out]; rfl)
          | (rw [show D = G from HD.out]; done)
          | (rw [show D = G from HD.out]; rfl)
set_option maxHeartbeats 4000000 in
theorem dests_walk (hT : T.Ok) (hS : AdsAt w sp T.src) (hR : RcsAt w rp T.recs) : Gives Tryz.prog 3 #[.agg (fls (tkS T sp sc rp rc)).toArray] w (.bool true) := by
  have HS := Lib.hid hS
  have HR := Lib.hid hR
  have oG := adL_ok T.grp
  have hTk := fewT_ok hT
  have hI := fewT_idem T
  have oG2 := adL_ok (fewT T).grp
  clear hS hR hT
  have HF := Lib.hid (show ∀ (W : World) (H : HB) (Q : Ending → World → Prop) (v : Array Value), v = #[.agg (fls (tkS T sp sc rp rc)).toArray] → Hp w.heap.size w W H → (∀ W' sp sc rp rc D, Hid (TkIn D sp rp (fewT T)) → Hp w.heap.size w W' (H ++ D) → Q (.returned (.agg (fls (tkS (fewT T) sp sc rp rc)).toArray)) W') → Calls Tryz.prog 4 v W Q from fun W H Q v hv hH h => by subst hv; exact hFew hH (HS.out.below hH.below) (HR.out.below hH.below) h)
  generalize fewT T = T' at *
  have HI := Lib.hid hI
  have HTk := Lib.hid hTk
  clear hI hTk
  obtain ⟨Y, hY⟩ : ∃ Y, adL (if goodT T' then destA T' else Ad.z) = Y := ⟨_, rfl⟩
  have oY : OkA Y 17 := by rw [← hY]; exact adL_ok _
  have oV := adL_ok (destA T')
  have fD : ∀ W sp rp sc rc, AdsAt W sp T'.src → RcsAt W rp T'.recs → Gives Tryz.prog 5 #[.agg (fls (tkS T' sp sc rp rc)).toArray] W (.tuple #[.agg (fls [.many Y 17]).toArray, .bool (goodT T')]) := fun W sp rp sc rc h1 h2 => by rw [← hY]; exact dDest_any h1 h2
  have fT : ∀ W sp rp sc rc, AdsAt W sp T'.src → RcsAt W rp T'.recs → Gives Tryz.prog 6 #[.agg (fls (tkS T' sp sc rp rc)).toArray] W (.bool (goodT T')) := fun W sp rp sc rc h1 h2 => refTalk_any HTk.out h1 h2
  have fV : ∀ W sp rp sc rc, Gives Tryz.prog 8 #[.agg (fls (tkS T' sp sc rp rc)).toArray] W (.agg (fls [.many (adL (destA T')) 17]).toArray) := fun W sp rp sc rc => rDest_any
  have hE : ∀ w, (binOp .eql 24 (.agg (fls [.many Y 17]).toArray) (.agg (fls [.many Y 17]).toArray)).run Tryz.prog w = .ok (.bool true) w := fun w => by rw [← hY, ad_eql]; simp
  have hE2 : ∀ w, (binOp .eql 24 (.agg (fls [.many (zeroL Tryz.prog 24) 17]).toArray) (.agg (fls [.one (.bool false), .many (zeroL Tryz.prog 22) 16]).toArray)).run Tryz.prog w = .ok (.bool true) w := fun w => by
    rw [show fls [.one (.bool false), .many (zeroL Tryz.prog 22) 16] = fls [.many (adL Ad.z) 17] from by rw [adL_z]; kernel_rfl, ← adL_z, ad_eql]; simp
  have fL : ∀ w, Gives Tryz.prog 7 #[] w (.bool true) := fun w => lives0
  have hZ : Hid ((goodT T' = false → Y = zeroL Tryz.prog 24) ∧ (goodT T' = true → adL (destA T') = Y)) := Lib.hid ⟨fun h => by rw [h] at hY; rw [← hY, ← adL_z]; rfl, fun h => by rw [h] at hY; rw [← hY]; rfl⟩
  clear hY
  generalize goodT T' = gd at *
  generalize adL (destA T') = V at *
  have FD := Lib.hid fD
  have FT := Lib.hid fT
  have FV := Lib.hid fV
  clear fD fT fV
  refine Gives.of ?_
  have hH := Hp.refl w
  go_enter Tryz.func3, Tryz.ntmps3
  go_wp2_with (first | ((go_at_call 4; refine HF.out _ _ _ _ rfl hH ?_; (clear hH; intro W sp1 sc1 rp1 rc1 D1 hT1 hH); (try simp only [List.cons_append, List.nil_append] at hH); (try simp only [Act.put, List.setIfInBounds_toArray, List.set_cons_succ, List.set_cons_zero]))) | ((first | (refine gL rfl ?_; first | (refine hL1 tab_ok 0 rfl ?_ rfl hH rfl rfl rfl rfl ?_; (focus (first | exact wN rfl | exact rfl))) | (refine hL1 tab_ok 1 rfl ?_ rfl hH rfl rfl rfl rfl ?_; (focus (first | exact wN rfl | exact rfl))) | (refine hLR tab_ok 0 rfl ?_ rfl hH rfl rfl rfl rfl ?_; (focus (first | exact wN rfl | exact rfl))) | (refine hLR tab_ok 1 rfl ?_ rfl hH rfl rfl rfl rfl ?_; (focus (first | exact wN rfl | exact rfl))) | (refine hL1i tab_ok 0 rfl ?_ rfl hH rfl rfl rfl rfl ?_; (focus (first | exact wN rfl | exact rfl)); refine ⟨?_, ?_, ?_⟩; rotate_left; (focus assumption)) | (refine hL1i tab_ok 1 rfl ?_ rfl hH rfl rfl rfl rfl ?_; (focus (first | exact wN rfl | exact rfl)); refine ⟨?_, ?_, ?_⟩; rotate_left; (focus assumption))) | (refine gS rfl ?_; first | (refine hS1 tab_ok 0 rfl ?_ rfl rfl hH rfl rfl rfl rfl rfl ?_; (focus (first | exact wN rfl | exact rfl))) | (refine hS1 tab_ok 1 rfl ?_ rfl rfl hH rfl rfl rfl rfl rfl ?_; (focus (first | exact wN rfl | exact rfl))) | (refine hSR tab_ok 0 rfl ?_ rfl rfl hH rfl rfl rfl rfl rfl ?_ ?_; (focus (first | exact wN rfl | exact rfl)); (focus (repeat (first | exact trivial | assumption | exact OkA.z (by kernel_rfl) (by kernel_rfl) | refine ⟨rfl, ?_⟩ | refine ⟨?_, ?_⟩)))) | (refine hSR tab_ok 1 rfl ?_ rfl rfl hH rfl rfl rfl rfl rfl ?_ ?_; (focus (first | exact wN rfl | exact rfl)); (focus (repeat (first | exact trivial | assumption | exact OkA.z (by kernel_rfl) (by kernel_rfl) | refine ⟨rfl, ?_⟩ | refine ⟨?_, ?_⟩))))) | (refine hAl tab_ok rfl ?_ hH rfl ?_; (focus (first | exact wN rfl | exact rfl))) | (refine hBx1 rfl ?_ rfl hH ?_; (focus (first | exact wN rfl | exact rfl))) | (refine hBx rfl ?_ rfl hH ?_ ?_; (focus (first | exact wN rfl | exact rfl)); (focus (repeat (first | exact trivial | assumption | exact OkA.z (by kernel_rfl) (by kernel_rfl) | refine ⟨rfl, ?_⟩ | refine ⟨?_, ?_⟩)))) | (refine hBd tab_ok rfl ?_ rfl rfl rfl hH ?_; (focus (first | exact wN rfl | exact rfl)); refine ⟨?_, ?_, ?_⟩; rotate_left; (focus (repeat (first | exact BR.nil | refine BR.one rfl rfl rfl ?_ | (refine BR.row rfl rfl rfl rfl ?_ ?_; (focus (repeat (first | exact trivial | assumption | exact OkA.z (by kernel_rfl) (by kernel_rfl) | refine ⟨rfl, ?_⟩ | refine ⟨?_, ?_⟩))))))))); clear hH; (first | intro W g hH | intro W hH); ((try simp only [Act.put, List.setIfInBounds_toArray, List.set_cons_succ, List.set_cons_zero]))))
  have hz := hZ.out
  clear hZ
  cases gd
  · obtain rfl : Y = zeroL Tryz.prog 24 := hz.1 rfl
    clear hz
    go_wp2_with (first | ((go_at_call 4; refine hFewI HI.out hH (hT1.out _ _ _ (hH.sub (SubH.drop SubH.refl))).1 (hT1.out _ _ _ (hH.sub (SubH.drop SubH.refl))).2 ?_; (clear hH; intro W sp2 sc2 rp2 rc2 D2 hT2 hH); (try simp only [List.cons_append, List.nil_append] at hH); (try simp only [Act.put, List.setIfInBounds_toArray, List.set_cons_succ, List.set_cons_zero]))) | ((first | (refine gL rfl ?_; first | (refine hL1 tab_ok 0 rfl ?_ rfl hH rfl rfl rfl rfl ?_; (focus (first | exact wN rfl | exact rfl))) | (refine hL1 tab_ok 1 rfl ?_ rfl hH rfl rfl rfl rfl ?_; (focus (first | exact wN rfl | exact rfl))) | (refine hL1 tab_ok 2 rfl ?_ rfl hH rfl rfl rfl rfl ?_; (focus (first | exact wN rfl | exact rfl))) | (refine hLR tab_ok 0 rfl ?_ rfl hH rfl rfl rfl rfl ?_; (focus (first | exact wN rfl | exact rfl))) | (refine hLR tab_ok 1 rfl ?_ rfl hH rfl rfl rfl rfl ?_; (focus (first | exact wN rfl | exact rfl))) | (refine hLR tab_ok 2 rfl ?_ rfl hH rfl rfl rfl rfl ?_; (focus (first | exact wN rfl | exact rfl))) | (refine hL1i tab_ok 0 rfl ?_ rfl hH rfl rfl rfl rfl ?_; (focus (first | exact wN rfl | exact rfl)); refine ⟨?_, ?_, ?_⟩; rotate_left; (focus assumption)) | (refine hL1i tab_ok 1 rfl ?_ rfl hH rfl rfl rfl rfl ?_; (focus (first | exact wN rfl | exact rfl)); refine ⟨?_, ?_, ?_⟩; rotate_left; (focus assumption)) | (refine hL1i tab_ok 2 rfl ?_ rfl hH rfl rfl rfl rfl ?_; (focus (first | exact wN rfl | exact rfl)); refine ⟨?_, ?_, ?_⟩; rotate_left; (focus assumption))) | (refine gS rfl ?_; first | (refine hS1 tab_ok 0 rfl ?_ rfl rfl hH rfl rfl rfl rfl rfl ?_; (focus (first | exact wN rfl | exact rfl))) | (refine hS1 tab_ok 1 rfl ?_ rfl rfl hH rfl rfl rfl rfl rfl ?_; (focus (first | exact wN rfl | exact rfl))) | (refine hS1 tab_ok 2 rfl ?_ rfl rfl hH rfl rfl rfl rfl rfl ?_; (focus (first | exact wN rfl | exact rfl))) | (refine hSR tab_ok 0 rfl ?_ rfl rfl hH rfl rfl rfl rfl rfl ?_ ?_; (focus (first | exact wN rfl | exact rfl)); (focus (repeat (first | exact trivial | assumption | exact OkA.z (by kernel_rfl) (by kernel_rfl) | refine ⟨rfl, ?_⟩ | refine ⟨?_, ?_⟩)))) | (refine hSR tab_ok 1 rfl ?_ rfl rfl hH rfl rfl rfl rfl rfl ?_ ?_; (focus (first | exact wN rfl | exact rfl)); (focus (repeat (first | exact trivial | assumption | exact OkA.z (by kernel_rfl) (by kernel_rfl) | refine ⟨rfl, ?_⟩ | refine ⟨?_, ?_⟩)))) | (refine hSR tab_ok 2 rfl ?_ rfl rfl hH rfl rfl rfl rfl rfl ?_ ?_; (focus (first | exact wN rfl | exact rfl)); (focus (repeat (first | exact trivial | assumption | exact OkA.z (by kernel_rfl) (by kernel_rfl) | refine ⟨rfl, ?_⟩ | refine ⟨?_, ?_⟩))))) | (refine hAl tab_ok rfl ?_ hH rfl ?_; (focus (first | exact wN rfl | exact rfl))) | (refine hBx1 rfl ?_ rfl hH ?_; (focus (first | exact wN rfl | exact rfl))) | (refine hBx rfl ?_ rfl hH ?_ ?_; (focus (first | exact wN rfl | exact rfl)); (focus (repeat (first | exact trivial | assumption | exact OkA.z (by kernel_rfl) (by kernel_rfl) | refine ⟨rfl, ?_⟩ | refine ⟨?_, ?_⟩)))) | (refine hBd tab_ok rfl ?_ rfl rfl rfl hH ?_; (focus (first | exact wN rfl | exact rfl)); refine ⟨?_, ?_, ?_⟩; rotate_left; (focus (repeat (first | exact BR.nil | refine BR.one rfl rfl rfl ?_ | (refine BR.row rfl rfl rfl rfl ?_ ?_; (focus (repeat (first | exact trivial | assumption | exact OkA.z (by kernel_rfl) (by kernel_rfl) | refine ⟨rfl, ?_⟩ | refine ⟨?_, ?_⟩)))))))) | ((with_reducible refine callH hH ?_); refine ⟨?_, ?_, ?_⟩; rotate_left; (focus (first | (exact FD.out _ _ _ _ _ (hT2.out _ _ _ (hH.sub (SubH.drop SubH.appR))).1 (hT2.out _ _ _ (hH.sub (SubH.drop SubH.appR))).2) | (exact FT.out _ _ _ _ _ (hT1.out _ _ _ (hH.sub (SubH.drop (SubH.drop SubH.appL)))).1 (hT1.out _ _ _ (hH.sub (SubH.drop (SubH.drop SubH.appL)))).2) | (with_reducible exact fL _))))); clear hH; (first | intro W g hH | intro W hH); ((try simp only [Act.put, List.setIfInBounds_toArray, List.set_cons_succ, List.set_cons_zero]))))
    go_ret
    exact ⟨rfl, hH.below⟩
  · obtain rfl : V = Y := hz.2 rfl
    clear hz
    go_wp2_with (first | ((go_at_call 4; refine hFewI HI.out hH (hT1.out _ _ _ (hH.sub (SubH.drop SubH.refl))).1 (hT1.out _ _ _ (hH.sub (SubH.drop SubH.refl))).2 ?_; (clear hH; intro W sp2 sc2 rp2 rc2 D2 hT2 hH); (try simp only [List.cons_append, List.nil_append] at hH); (try simp only [Act.put, List.setIfInBounds_toArray, List.set_cons_succ, List.set_cons_zero]))) | ((first | (refine gL rfl ?_; first | (refine hL1 tab_ok 0 rfl ?_ rfl hH rfl rfl rfl rfl ?_; (focus (first | exact wN rfl | exact rfl))) | (refine hL1 tab_ok 1 rfl ?_ rfl hH rfl rfl rfl rfl ?_; (focus (first | exact wN rfl | exact rfl))) | (refine hL1 tab_ok 2 rfl ?_ rfl hH rfl rfl rfl rfl ?_; (focus (first | exact wN rfl | exact rfl))) | (refine hLR tab_ok 0 rfl ?_ rfl hH rfl rfl rfl rfl ?_; (focus (first | exact wN rfl | exact rfl))) | (refine hLR tab_ok 1 rfl ?_ rfl hH rfl rfl rfl rfl ?_; (focus (first | exact wN rfl | exact rfl))) | (refine hLR tab_ok 2 rfl ?_ rfl hH rfl rfl rfl rfl ?_; (focus (first | exact wN rfl | exact rfl))) | (refine hL1i tab_ok 0 rfl ?_ rfl hH rfl rfl rfl rfl ?_; (focus (first | exact wN rfl | exact rfl)); refine ⟨?_, ?_, ?_⟩; rotate_left; (focus assumption)) | (refine hL1i tab_ok 1 rfl ?_ rfl hH rfl rfl rfl rfl ?_; (focus (first | exact wN rfl | exact rfl)); refine ⟨?_, ?_, ?_⟩; rotate_left; (focus assumption)) | (refine hL1i tab_ok 2 rfl ?_ rfl hH rfl rfl rfl rfl ?_; (focus (first | exact wN rfl | exact rfl)); refine ⟨?_, ?_, ?_⟩; rotate_left; (focus assumption))) | (refine gS rfl ?_; first | (refine hS1 tab_ok 0 rfl ?_ rfl rfl hH rfl rfl rfl rfl rfl ?_; (focus (first | exact wN rfl | exact rfl))) | (refine hS1 tab_ok 1 rfl ?_ rfl rfl hH rfl rfl rfl rfl rfl ?_; (focus (first | exact wN rfl | exact rfl))) | (refine hS1 tab_ok 2 rfl ?_ rfl rfl hH rfl rfl rfl rfl rfl ?_; (focus (first | exact wN rfl | exact rfl))) | (refine hSR tab_ok 0 rfl ?_ rfl rfl hH rfl rfl rfl rfl rfl ?_ ?_; (focus (first | exact wN rfl | exact rfl)); (focus (repeat (first | exact trivial | assumption | exact OkA.z (by kernel_rfl) (by kernel_rfl) | refine ⟨rfl, ?_⟩ | refine ⟨?_, ?_⟩)))) | (refine hSR tab_ok 1 rfl ?_ rfl rfl hH rfl rfl rfl rfl rfl ?_ ?_; (focus (first | exact wN rfl | exact rfl)); (focus (repeat (first | exact trivial | assumption | exact OkA.z (by kernel_rfl) (by kernel_rfl) | refine ⟨rfl, ?_⟩ | refine ⟨?_, ?_⟩)))) | (refine hSR tab_ok 2 rfl ?_ rfl rfl hH rfl rfl rfl rfl rfl ?_ ?_; (focus (first | exact wN rfl | exact rfl)); (focus (repeat (first | exact trivial | assumption | exact OkA.z (by kernel_rfl) (by kernel_rfl) | refine ⟨rfl, ?_⟩ | refine ⟨?_, ?_⟩))))) | (refine hAl tab_ok rfl ?_ hH rfl ?_; (focus (first | exact wN rfl | exact rfl))) | (refine hBx1 rfl ?_ rfl hH ?_; (focus (first | exact wN rfl | exact rfl))) | (refine hBx rfl ?_ rfl hH ?_ ?_; (focus (first | exact wN rfl | exact rfl)); (focus (repeat (first | exact trivial | assumption | exact OkA.z (by kernel_rfl) (by kernel_rfl) | refine ⟨rfl, ?_⟩ | refine ⟨?_, ?_⟩)))) | (refine hBd tab_ok rfl ?_ rfl rfl rfl hH ?_; (focus (first | exact wN rfl | exact rfl)); refine ⟨?_, ?_, ?_⟩; rotate_left; (focus (repeat (first | exact BR.nil | refine BR.one rfl rfl rfl ?_ | (refine BR.row rfl rfl rfl rfl ?_ ?_; (focus (repeat (first | exact trivial | assumption | exact OkA.z (by kernel_rfl) (by kernel_rfl) | refine ⟨rfl, ?_⟩ | refine ⟨?_, ?_⟩)))))))) | ((with_reducible refine callH hH ?_); refine ⟨?_, ?_, ?_⟩; rotate_left; (focus (first | (exact FD.out _ _ _ _ _ (hT2.out _ _ _ (hH.sub (SubH.drop SubH.appR))).1 (hT2.out _ _ _ (hH.sub (SubH.drop SubH.appR))).2) | (exact FT.out _ _ _ _ _ (hT1.out _ _ _ (hH.sub (SubH.drop (SubH.drop SubH.appL)))).1 (hT1.out _ _ _ (hH.sub (SubH.drop (SubH.drop SubH.appL)))).2))))); clear hH; (first | intro W g hH | intro W hH); ((try simp only [Act.put, List.setIfInBounds_toArray, List.set_cons_succ, List.set_cons_zero]))))
    ((with_reducible refine regQ hH (by kernel_rfl) (by kernel_rfl) ?_); intro hne; (repeat (first | (go_big_quiet_want; (first | (refine gQ rfl ?_; first | refine qL1 tab_ok 0 rfl rfl rfl rfl rfl rfl ?_ | refine qL1 tab_ok 1 rfl rfl rfl rfl rfl rfl ?_ | refine qL1 tab_ok 2 rfl rfl rfl rfl rfl rfl ?_ | refine qLR tab_ok 0 rfl rfl rfl rfl rfl rfl ?_ | refine qLR tab_ok 1 rfl rfl rfl rfl rfl rfl ?_ | refine qLR tab_ok 2 rfl rfl rfl rfl rfl rfl ?_ | (refine qL1i tab_ok 0 rfl rfl rfl rfl rfl rfl ?_; refine ⟨?_, ?_, ?_⟩; rotate_left; (focus assumption)) | (refine qL1i tab_ok 1 rfl rfl rfl rfl rfl rfl ?_; refine ⟨?_, ?_, ?_⟩; rotate_left; (focus assumption)) | (refine qL1i tab_ok 2 rfl rfl rfl rfl rfl rfl ?_; refine ⟨?_, ?_, ?_⟩; rotate_left; (focus assumption))) | (refine qBd tab_ok rfl rfl rfl rfl ?_; refine ⟨?_, ?_, ?_⟩; rotate_left; (focus (repeat (first | exact BR.nil | refine BR.one rfl rfl rfl ?_ | (refine BR.row rfl rfl rfl rfl ?_ ?_; (focus (repeat (first | exact trivial | assumption | exact OkA.z (by kernel_rfl) (by kernel_rfl) | refine ⟨rfl, ?_⟩ | refine ⟨?_, ?_⟩))))))))); (try simp only [Act.put, List.setIfInBounds_toArray, List.set_cons_succ, List.set_cons_zero]); go_big_quiet_on) | go_big_quiet_step (((with_reducible apply callQ); first | (exact FV.out _ _ _ _ _) | (with_reducible exact fL _))))); refine wpQuiet_nil ?_; clear hne hH; intro W hH)
    go_wp2_with (first | ((first | (refine gL rfl ?_; first | (refine hL1 tab_ok 0 rfl ?_ rfl hH rfl rfl rfl rfl ?_; (focus (first | exact wN rfl | exact rfl))) | (refine hL1 tab_ok 1 rfl ?_ rfl hH rfl rfl rfl rfl ?_; (focus (first | exact wN rfl | exact rfl))) | (refine hL1 tab_ok 2 rfl ?_ rfl hH rfl rfl rfl rfl ?_; (focus (first | exact wN rfl | exact rfl))) | (refine hLR tab_ok 0 rfl ?_ rfl hH rfl rfl rfl rfl ?_; (focus (first | exact wN rfl | exact rfl))) | (refine hLR tab_ok 1 rfl ?_ rfl hH rfl rfl rfl rfl ?_; (focus (first | exact wN rfl | exact rfl))) | (refine hLR tab_ok 2 rfl ?_ rfl hH rfl rfl rfl rfl ?_; (focus (first | exact wN rfl | exact rfl))) | (refine hL1i tab_ok 0 rfl ?_ rfl hH rfl rfl rfl rfl ?_; (focus (first | exact wN rfl | exact rfl)); refine ⟨?_, ?_, ?_⟩; rotate_left; (focus assumption)) | (refine hL1i tab_ok 1 rfl ?_ rfl hH rfl rfl rfl rfl ?_; (focus (first | exact wN rfl | exact rfl)); refine ⟨?_, ?_, ?_⟩; rotate_left; (focus assumption)) | (refine hL1i tab_ok 2 rfl ?_ rfl hH rfl rfl rfl rfl ?_; (focus (first | exact wN rfl | exact rfl)); refine ⟨?_, ?_, ?_⟩; rotate_left; (focus assumption))) | (refine gS rfl ?_; first | (refine hS1 tab_ok 0 rfl ?_ rfl rfl hH rfl rfl rfl rfl rfl ?_; (focus (first | exact wN rfl | exact rfl))) | (refine hS1 tab_ok 1 rfl ?_ rfl rfl hH rfl rfl rfl rfl rfl ?_; (focus (first | exact wN rfl | exact rfl))) | (refine hS1 tab_ok 2 rfl ?_ rfl rfl hH rfl rfl rfl rfl rfl ?_; (focus (first | exact wN rfl | exact rfl))) | (refine hSR tab_ok 0 rfl ?_ rfl rfl hH rfl rfl rfl rfl rfl ?_ ?_; (focus (first | exact wN rfl | exact rfl)); (focus (repeat (first | exact trivial | assumption | exact OkA.z (by kernel_rfl) (by kernel_rfl) | refine ⟨rfl, ?_⟩ | refine ⟨?_, ?_⟩)))) | (refine hSR tab_ok 1 rfl ?_ rfl rfl hH rfl rfl rfl rfl rfl ?_ ?_; (focus (first | exact wN rfl | exact rfl)); (focus (repeat (first | exact trivial | assumption | exact OkA.z (by kernel_rfl) (by kernel_rfl) | refine ⟨rfl, ?_⟩ | refine ⟨?_, ?_⟩)))) | (refine hSR tab_ok 2 rfl ?_ rfl rfl hH rfl rfl rfl rfl rfl ?_ ?_; (focus (first | exact wN rfl | exact rfl)); (focus (repeat (first | exact trivial | assumption | exact OkA.z (by kernel_rfl) (by kernel_rfl) | refine ⟨rfl, ?_⟩ | refine ⟨?_, ?_⟩))))) | (refine hAl tab_ok rfl ?_ hH rfl ?_; (focus (first | exact wN rfl | exact rfl))) | (refine hBx1 rfl ?_ rfl hH ?_; (focus (first | exact wN rfl | exact rfl))) | (refine hBx rfl ?_ rfl hH ?_ ?_; (focus (first | exact wN rfl | exact rfl)); (focus (repeat (first | exact trivial | assumption | exact OkA.z (by kernel_rfl) (by kernel_rfl) | refine ⟨rfl, ?_⟩ | refine ⟨?_, ?_⟩)))) | (refine hBd tab_ok rfl ?_ rfl rfl rfl hH ?_; (focus (first | exact wN rfl | exact rfl)); refine ⟨?_, ?_, ?_⟩; rotate_left; (focus (repeat (first | exact BR.nil | refine BR.one rfl rfl rfl ?_ | (refine BR.row rfl rfl rfl rfl ?_ ?_; (focus (repeat (first | exact trivial | assumption | exact OkA.z (by kernel_rfl) (by kernel_rfl) | refine ⟨rfl, ?_⟩ | refine ⟨?_, ?_⟩))))))))); clear hH; (first | intro W g hH | intro W hH); ((try simp only [Act.put, List.setIfInBounds_toArray, List.set_cons_succ, List.set_cons_zero]))))
    go_ret
    exact ⟨rfl, hH.below⟩
end
set_option maxRecDepth 100000 in
theorem frameDests_lifted (os : Os) (started : os.Started) (H : Type) (enc : TypeId × Value → H) :
    ReturnsInHanded {} Tryz.checked os 3 .any (Rows.frameDestsSpec.pre6 enc Tryz.prog Tryz.f3 Rows.frameDestsRow.domain false) (Rows.frameDestsSpec.post enc Tryz.prog Tryz.f3 false true false false) := by
  refine lifted_of_walk (C := Tryz.checked) (tb := 4) own started (by kernel_rfl) Tryz.func3
    (ChangeSpec.witness6 (enc := enc) (C := Tryz.checked) false ⟨#[], #[.agg (fls (tkS Tk.z none 0 none 0)).toArray], []⟩ 8 (by kernel_rfl) (by kernel_rfl) (by kernel_rfl) (by kernel_rfl))
    (by kernel_rfl) Tryz.underlying4 (by kernel_rfl) (by kernel_rfl) rfl ?_ ?_
  · intro ds hl
    match ds, hl with
    | [d0], _ => exact ⟨rfl, rfl, rfl⟩
  · intro W base args ds ps hval hA hfz
    have hA' : DataW.TrodAll enc Tryz.prog W 0 (fun _ => true) true Tryz.f3.params.toList args.toList ds ps := hA
    rw [Tryz.params3] at hA'
    obtain ⟨v0, vs0, d0, ds0, p0, q0, hargs0, rfl, rfl, h0, r0⟩ := trodAll_cons hA'
    obtain ⟨hvs, rfl, rfl⟩ := trodAll_nil r0
    obtain rfl : args = #[v0] := by cases args; simp_all
    have g0 := hval 0 28 v0 rfl rfl
    obtain ⟨T, sp, rp, sc, rc, rfl, hS, hR, hT, _⟩ := tk_open g0 h0
    exact dests_walk hT hS hR
theorem frameDests_proved : Rows.FrameDestsSaid :=
  OpenClaim.holds_of_wide 3 Tryz.f3 rfl rfl rfl rfl rfl rfl rfl ⟨rfl, rfl, rfl, rfl, rfl⟩ rfl rfl rfl rfl rfl (by kernel_rfl) Tryz.func3 (by kernel_rfl)
    (of_decide_eq_true (by kernel_rfl)) (by unfold Func.isWrapper; first | (rw [if_pos (by decide +kernel)]; kernel_rfl) | (rw [if_neg (by decide +kernel)]; exact ⟨rfl, rfl⟩))
    (fun os started H enc _ => frameDests_lifted os started H enc)
end Go.Proofs.YtnobencogihbnaaGreat
