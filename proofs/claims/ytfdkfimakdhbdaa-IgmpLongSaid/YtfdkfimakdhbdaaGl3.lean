/-
  IgmpLong: too many sources or records. No condition.
-/
import Derived.Test.YtfdkfimakdhbdaaGl1
import Derived.Test.YtfdkfimakdhbdaaGl2
import Derived.Test.YtfdkfimakdhbdaaGs0
import Derived.Test.YtfdkfimakdhbdaaSm
import Derived.Test.YtfdkfimakdhbdaaRows
import Derived.Test.YtfdkfimakdhbdaaIn
namespace Go.Proofs.Ytfdkfimakdhbdaa
-- %in
open Go.ChangeShapes Go.WideShapes Go.ChangeAt Go.RowKit
set_option linter.unusedVariables false
set_option linter.unusedSimpArgs false
set_option maxRecDepth 20000
attribute [local irreducible] wpList

instance subAppL {A B D : HB} [k : SubI A D] : SubI (A ++ B) D := ⟨k.h.l⟩
instance subAppR {A B D : HB} [k : SubI B D] : SubI (A ++ B) D := ⟨k.h.r⟩
section
variable {w : World} {k : Nat} {b : Bool}
theorem hMany {B : Nat} {w0 W : World} {H : HB} {Q : Ending → World → Prop} (h0 : 0 < k) (hk : k < 100) (hH : Hp B w0 W H) (h : ∀ W' sp sc rp rc D, Hid (TkIn D sp rp (manyT k b)) → Hp B w0 W' (H ++ D) → Q (.returned (.agg (fls (tkS (manyT k b) sp sc rp rc)).toArray)) W') : Calls Try.prog 12 #[.int .i64 (k : Int), .bool b] W Q := by
  have hm : Calls Try.prog 12 #[.int .i64 (k : Int), .bool b] W fun e w' => TkPost W (manyT k b) e w' := by
    cases b
    · exact many_srcs h0 hk
    · exact many_recs h0 hk
  exact hm.mono fun _ _ ⟨sp, sc, rp, rc, D, he, hm, hr⟩ => by subst he; exact h _ sp sc rp rc D (Lib.hid hr) (hH.join hm)
theorem igmpLong_walk {n : Nat} (hn : n < 256) : Gives Try.prog 4 #[.int .u8 (n : Int), .bool b] w (.bool true) := by
  obtain ⟨k, hk⟩ : ∃ k, k = 55 + n % 20 := ⟨_, rfl⟩
  have hka : 0 < k := by omega
  have hkb : k < 100 := by omega
  have e1 : ((55 : Int) + (n : Int) % 20) = (k : Int) := by rw [hk]; omega
  have FM := Lib.hid (show ∀ (W : World) (H : HB) (Q : Ending → World → Prop), Hp w.heap.size w W H → (∀ W' sp sc rp rc D, Hid (TkIn D sp rp (manyT k b)) → Hp w.heap.size w W' (H ++ D) → Q (.returned (.agg (fls (tkS (manyT k b) sp sc rp rc)).toArray)) W') → Calls Try.prog 12 #[.int .i64 (k : Int), .bool b] W Q from fun W H Q hH hQ => hMany hka hkb hH hQ)
  have hg := many_good (b := b) hkb
  have HWR := Lib.hid (show ∀ (W : World) (H : HB) sp sc rp rc D, Hid (TkIn D sp rp (manyT k b)) → SubH H D → Hp w.heap.size w W H → Gives Try.prog 13 #[.agg (fls (tkS (manyT k b) sp sc rp rc)).toArray] W (.tuple #[.string (if good4 (manyT k b) then writeT (manyT k b) else ⟨#[]⟩), .int .i64 (if good4 (manyT k b) then 0 else 2)]) from fun W H sp sc rp rc D hD hs hH => by
    have h := hD.out _ _ _ (hH.sub hs)
    exact iWrite_any h.1 h.2)
  have HRW := Lib.hid (show ∀ (W : World) (H : HB) sp sc rp rc D, Hid (TkIn D sp rp (manyT k b)) → SubH H D → Hp w.heap.size w W H → Gives Try.prog 14 #[.agg (fls (tkS (manyT k b) sp sc rp rc)).toArray] W (.string (writeT (manyT k b))) from fun W H sp sc rp rc D hD hs hH => by
    have h := hD.out _ _ _ (hH.sub hs)
    exact many_write hkb h.1 h.2)
  have hz : (writeT (manyT k b)).size ≤ 100000 := by
    have h : (restL (manyT k b)).length ≤ 90000 := by
      cases b
      · have := srcB_le ((List.range k).map srcM)
        have h2 := bytesA_le grpM
        rw [List.length_map, List.length_range] at this
        simp [restL, manyT, putL_length]
        omega
      · have h2 := recsB_len (R := List.replicate k recM) (by rw [List.all_eq_true]; intro x hx; rw [List.eq_of_mem_replicate hx]; exact recM_ok)
        rw [recN_rep] at h2
        simp [restL, manyT, putL_length]
        omega
    unfold writeT headL
    simp only [str_size, List.length_append, putL_length]
    omega
  refine Gives.of ?_
  have hH := Hp.refl w
  by_cases h64 : k ≤ 64
  · have hgt : good4 (manyT k b) = true := by rw [hg]; exact decide_eq_true h64
    have hbk := back_all hgt
    have HRD := Lib.hid (show ∀ (W : World) (H : HB) (Q : Ending → World → Prop), Hp w.heap.size w W H → (∀ W' sp sc rp rc D, Hid (TkIn D sp rp (manyT k b)) → Hid (∀ r ∈ D, r.2.2.1 = true) → Hp w.heap.size w W' (H ++ D) → Q (.returned (.tuple #[.agg (fls (tkS (manyT k b) sp sc rp rc)).toArray, .int .i64 0])) W') → Calls Try.prog 7 #[.string (writeT (manyT k b))] W Q from fun W H Q hH hQ => by
      refine hIRead hz hH ?_
      rw [hbk]
      exact hQ)
    have HSM := Lib.hid (show ∀ (W : World) (H : HB) sp sc rp rc sp' sc' rp' rc' D D', Hid (TkIn D sp rp (manyT k b)) → SubH H D → Hid (TkIn D' sp' rp' (manyT k b)) → SubH H D' → Hp w.heap.size w W H → Gives Try.prog 9 #[.agg (fls (tkS (manyT k b) sp sc rp rc)).toArray, .agg (fls (tkS (manyT k b) sp' sc' rp' rc')).toArray] W (.bool true) from fun W H sp sc rp rc sp' sc' rp' rc' D D' hD hs hD' hs' hH => by
      have h := hD.out _ _ _ (hH.sub hs)
      have h' := hD'.out _ _ _ (hH.sub hs')
      have := same_any (sc := sc) (rc := rc) (sc' := sc') (rc' := rc') h.1 h.2 h'.1 h'.2
      rwa [sameT_self] at this)
    have d64 : decide ((64 : Int) < (k : Int)) = false := decide_eq_false (by omega)
    rw [hgt] at HWR
    simp only [if_true] at HWR
    generalize writeT (manyT k b) = wr at *
    clear hg hgt hbk hz h64 hka hkb
    generalize manyT k b = T at *
    obtain ⟨v6, ver, kind, resp, G, quiet, rob, every, src, recs⟩ := T
    unfold tkS at *
    have oG := adL_ok G
    simp only at *
    generalize adL G = Y at *
    clear hk
    go_enter Try.func4, Try.ntmps4
    go_wp2_with (first | ((go_at_call 12; with_reducible refine FM.out _ _ _ hH ?_; (clear hH; intro W spn scn rpn rcn Dn hTn hH); (try simp only [List.cons_append, List.nil_append, List.append_assoc] at hH); ((try simp only [Act.put, pA, pB, pC])))) | ((go_at_call 7; with_reducible refine HRD.out _ _ _ hH ?_; (clear hH; intro W spn scn rpn rcn Dn hTn hDn hH); (try simp only [List.cons_append, List.nil_append, List.append_assoc] at hH); ((try simp only [Act.put, pA, pB, pC])))) | ((first | (refine iL tab_ok rfl ?_ rfl hH ?_; (focus (first | exact wN rfl | exact rfl)); refine ⟨_, _, rfl, rfl, ?_⟩) | (refine iLi tab_ok rfl ?_ rfl hH ?_; (focus (first | exact wN rfl | exact rfl)); refine ⟨_, _, _, ?_, rfl, rfl, rfl, ?_, ?_⟩; rotate_left; (focus assumption)) | (refine iS1 tab_ok rfl ?_ rfl hH ?_; (focus (first | exact wN rfl | exact rfl)); refine ⟨_, _, _, _, rfl, rfl, rfl, rfl, rfl, ?_⟩) | (refine iSR tab_ok rfl ?_ rfl hH ?_; (focus (first | exact wN rfl | exact rfl)); refine ⟨_, _, _, _, rfl, rfl, rfl, rfl, rfl, ?_, ?_⟩; (focus (repeat (first | exact trivial | assumption | exact OkA.z (by kernel_rfl) (by kernel_rfl) | refine ⟨rfl, ?_⟩ | refine ⟨?_, ?_⟩)))) | (refine hAl tab_ok rfl ?_ hH rfl ?_; (focus (first | exact wN rfl | exact rfl))) | (refine hBx1 rfl ?_ rfl hH ?_; (focus (first | exact wN rfl | exact rfl))) | (refine hBx rfl ?_ rfl hH ?_ ?_; (focus (first | exact wN rfl | exact rfl)); (focus (repeat (first | exact trivial | assumption | exact OkA.z (by kernel_rfl) (by kernel_rfl) | refine ⟨rfl, ?_⟩ | refine ⟨?_, ?_⟩)))) | (refine hBd tab_ok rfl ?_ rfl rfl rfl hH ?_; (focus (first | exact wN rfl | exact rfl)); refine ⟨?_, ?_, ?_⟩; rotate_left; (focus (repeat (first | exact BR.nil | refine BR.one rfl rfl rfl ?_ | (refine BR.row rfl rfl rfl rfl ?_ ?_; (focus (repeat (first | exact trivial | assumption | exact OkA.z (by kernel_rfl) (by kernel_rfl) | refine ⟨rfl, ?_⟩ | refine ⟨?_, ?_⟩)))))))) | ((with_reducible refine callH hH ?_); refine ⟨?_, ?_, ?_⟩; rotate_left; (focus (first | ((refine HWR.out _ _ _ _ _ _ ?_ ?_ ?_ hH; rotate_left; (focus assumption); exact SubI.h)) | ((refine HRW.out _ _ _ _ _ _ ?_ ?_ ?_ hH; rotate_left; (focus assumption); exact SubI.h)) | ((refine HSM.out _ _ _ _ _ _ _ _ _ _ ?_ ?_ ?_ ?_ ?_ ?_ hH; rotate_left 2; (focus assumption); (focus (exact SubI.h)); (focus assumption); exact SubI.h)) | (with_reducible exact lives08))))); clear hH; (first | intro W g hH | intro W hH); ((try simp only [Act.put, pA, pB, pC]))))
    go_ret
    exact ⟨rfl, hH.below⟩
  · have hgf : good4 (manyT k b) = false := by rw [hg]; exact decide_eq_false h64
    have hlg := many_long (b := b) (show 64 < k by omega) hkb
    have HRD := Lib.hid (show ∀ (W : World) (H : HB) (Q : Ending → World → Prop), Hp w.heap.size w W H → (∀ W' sp sc rp rc D, Hid (TkIn D sp rp Tk.z) → Hid (∀ r ∈ D, r.2.2.1 = true) → Hp w.heap.size w W' (H ++ D) → Q (.returned (.tuple #[.agg (fls [.one (.bool false), .one (.int .i64 0), .one (.int .i64 0), .one (.int .i64 0), .many (adL Ad.z) 17, .one (.bool false), .one (.int .i64 0), .one (.int .i64 0), .one (.slice sp 0 sc), .one (.slice rp 0 rc)]).toArray, .int .i64 6])) W') → Calls Try.prog 7 #[.string (writeT (manyT k b))] W Q from fun W H Q hH hQ => by
      refine hIRead hz hH ?_
      rw [hlg]
      intro W' sp sc rp rc D h1 h2 h3
      exact hQ W' sp sc rp rc D h1 h2 h3)
    have HSM := Lib.hid (show ∀ (W : World) (H : HB) sp sc rp rc D, Hid (TkIn D sp rp Tk.z) → SubH H D → Hp w.heap.size w W H → Gives Try.prog 9 #[.agg (fls [.one (.bool false), .one (.int .i64 0), .one (.int .i64 0), .one (.int .i64 0), .many (adL Ad.z) 17, .one (.bool false), .one (.int .i64 0), .one (.int .i64 0), .one (.slice sp 0 sc), .one (.slice rp 0 rc)]).toArray, .agg (fls [.one (.bool false), .one (.int .i64 0), .one (.int .i64 0), .one (.int .i64 0), .many (zeroL Try.prog 25) 17, .one (.bool false), .one (.int .i64 0), .one (.int .i64 0), .one (.slice none 0 0), .one (.slice none 0 0)]).toArray] W (.bool true) from fun W H sp sc rp rc D hD hs hH => by
      have h := hD.out _ _ _ (hH.sub hs)
      have := same_any (A := Tk.z) (B := Tk.z) (sc := sc) (rc := rc) (sp' := none) (rp' := none) (sc' := 0) (rc' := 0) h.1 h.2 AdsAt.nil RcsAt.nil
      rw [sameT_self] at this
      have e : fls [.one (.bool false), .one (.int .i64 0), .one (.int .i64 0), .one (.int .i64 0), .many (zeroL Try.prog 25) 17, .one (.bool false), .one (.int .i64 0), .one (.int .i64 0), .one (.slice none 0 0), .one (.slice none 0 0)] = fls (tkS Tk.z none 0 none 0) := by kernel_rfl
      rw [e]
      exact this)
    have d64 : decide ((64 : Int) < (k : Int)) = true := decide_eq_true (by omega)
    rw [hgf] at HWR
    simp only [Bool.false_eq_true, if_false] at HWR
    generalize writeT (manyT k b) = wr at *
    clear hg hgf hlg hz h64 hka hkb
    generalize manyT k b = T at *
    obtain ⟨v6, ver, kind, resp, G, quiet, rob, every, src, recs⟩ := T
    unfold tkS at *
    have oG := adL_ok G
    have oZ := adL_ok Ad.z
    simp only at *
    generalize adL G = Y at *
    generalize adL Ad.z = Z at *
    clear hk
    go_enter Try.func4, Try.ntmps4
    go_wp2_with (first | ((go_at_call 12; with_reducible refine FM.out _ _ _ hH ?_; (clear hH; intro W spn scn rpn rcn Dn hTn hH); (try simp only [List.cons_append, List.nil_append, List.append_assoc] at hH); ((try simp only [Act.put, pA, pB, pC])))) | ((go_at_call 7; with_reducible refine HRD.out _ _ _ hH ?_; (clear hH; intro W spn scn rpn rcn Dn hTn hDn hH); (try simp only [List.cons_append, List.nil_append, List.append_assoc] at hH); ((try simp only [Act.put, pA, pB, pC])))) | ((first | (refine iL tab_ok rfl ?_ rfl hH ?_; (focus (first | exact wN rfl | exact rfl)); refine ⟨_, _, rfl, rfl, ?_⟩) | (refine iLi tab_ok rfl ?_ rfl hH ?_; (focus (first | exact wN rfl | exact rfl)); refine ⟨_, _, _, ?_, rfl, rfl, rfl, ?_, ?_⟩; rotate_left; (focus assumption)) | (refine iS1 tab_ok rfl ?_ rfl hH ?_; (focus (first | exact wN rfl | exact rfl)); refine ⟨_, _, _, _, rfl, rfl, rfl, rfl, rfl, ?_⟩) | (refine iSR tab_ok rfl ?_ rfl hH ?_; (focus (first | exact wN rfl | exact rfl)); refine ⟨_, _, _, _, rfl, rfl, rfl, rfl, rfl, ?_, ?_⟩; (focus (repeat (first | exact trivial | assumption | exact OkA.z (by kernel_rfl) (by kernel_rfl) | refine ⟨rfl, ?_⟩ | refine ⟨?_, ?_⟩)))) | (refine hAl tab_ok rfl ?_ hH rfl ?_; (focus (first | exact wN rfl | exact rfl))) | (refine hBx1 rfl ?_ rfl hH ?_; (focus (first | exact wN rfl | exact rfl))) | (refine hBx rfl ?_ rfl hH ?_ ?_; (focus (first | exact wN rfl | exact rfl)); (focus (repeat (first | exact trivial | assumption | exact OkA.z (by kernel_rfl) (by kernel_rfl) | refine ⟨rfl, ?_⟩ | refine ⟨?_, ?_⟩)))) | (refine hBd tab_ok rfl ?_ rfl rfl rfl hH ?_; (focus (first | exact wN rfl | exact rfl)); refine ⟨?_, ?_, ?_⟩; rotate_left; (focus (repeat (first | exact BR.nil | refine BR.one rfl rfl rfl ?_ | (refine BR.row rfl rfl rfl rfl ?_ ?_; (focus (repeat (first | exact trivial | assumption | exact OkA.z (by kernel_rfl) (by kernel_rfl) | refine ⟨rfl, ?_⟩ | refine ⟨?_, ?_⟩)))))))) | ((with_reducible refine callH hH ?_); refine ⟨?_, ?_, ?_⟩; rotate_left; (focus (first | ((refine HWR.out _ _ _ _ _ _ ?_ ?_ ?_ hH; rotate_left; (focus assumption); exact SubI.h)) | ((refine HRW.out _ _ _ _ _ _ ?_ ?_ ?_ hH; rotate_left; (focus assumption); exact SubI.h)) | ((refine HSM.out _ _ _ _ _ _ ?_ ?_ ?_ hH; rotate_left; (focus assumption); exact SubI.h)) | (with_reducible exact lives08))))); clear hH; (first | intro W g hH | intro W hH); ((try simp only [Act.put, pA, pB, pC]))))
    go_ret
    exact ⟨rfl, hH.below⟩
end
set_option maxRecDepth 100000 in
theorem igmpLong_lifted (os : Os) (started : os.Started) (H : Type) (enc : TypeId × Value → H) :
    ReturnsInHanded {} Try.checked os 4 .any (Rows.igmpLongSpec.pre6 enc Try.prog Try.f4 Rows.igmpLongRow.domain false) (Rows.igmpLongSpec.post enc Try.prog Try.f4 false true false false) := by
  refine lifted_of_walk (C := Try.checked) (tb := 4) own started (by kernel_rfl) Try.func4
    (ChangeSpec.witness6 (enc := enc) (C := Try.checked) false ⟨#[], #[.int .u8 0, .bool false], []⟩ 8 (by kernel_rfl) (by kernel_rfl) (by kernel_rfl) (by kernel_rfl))
    (by kernel_rfl) Try.underlying4 (by kernel_rfl) (by kernel_rfl) rfl ?_ ?_
  · intro ds hl
    match ds, hl with
    | [d0, d1], _ => exact ⟨rfl, rfl, rfl⟩
  · intro W base args ds ps hval hA hfz
    have hA' : DataW.TrodAll enc Try.prog W 0 (fun _ => true) true Try.f4.params.toList args.toList ds ps := hA
    rw [Try.params4] at hA'
    obtain ⟨v0, vs0, d0, ds0, p0, q0, hargs0, rfl, rfl, h0, r0⟩ := trodAll_cons hA'
    obtain ⟨v1, vs1, d1, ds1, p1, q1, hargs1, rfl, rfl, h1, r1⟩ := trodAll_cons r0
    obtain ⟨hvs, rfl, rfl⟩ := trodAll_nil r1
    obtain rfl : args = #[v0, v1] := by cases args; simp_all
    have g0 := hval 0 5 v0 rfl rfl
    have g1 := hval 1 4 v1 rfl rfl
    obtain ⟨n, rfl⟩ := open_u8 Try.underlying5 g0
    obtain ⟨b, rfl⟩ := open_boolv Try.underlying4 g1
    exact igmpLong_walk (n := n.toNat) (by have := n.toNat_lt; omega)
theorem igmpLong_proved : Rows.IgmpLongSaid :=
  OpenClaim.holds_of_wide 4 Try.f4 rfl rfl rfl rfl rfl rfl rfl ⟨rfl, rfl, rfl, rfl, rfl⟩ rfl rfl rfl rfl rfl (by kernel_rfl) Try.func4 (by kernel_rfl)
    (of_decide_eq_true (by kernel_rfl)) (by unfold Func.isWrapper; first | (rw [if_pos (by decide +kernel)]; kernel_rfl) | (rw [if_neg (by decide +kernel)]; exact ⟨rfl, rfl⟩))
    (fun os started H enc _ => igmpLong_lifted os started H enc)
end Go.Proofs.Ytfdkfimakdhbdaa
