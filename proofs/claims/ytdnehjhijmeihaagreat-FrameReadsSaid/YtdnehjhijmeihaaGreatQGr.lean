/-
  Joined texts: Gr.
-/
import Derived.Test.YtdnehjhijmeihaaGreatQGq
import Derived.Test.YtdnehjhijmeihaaGreatQGj
import Derived.Test.YtdnehjhijmeihaaGreatQSl
namespace Go.Proofs.YtdnehjhijmeihaaGreat
-- %in
open Go.ChangeShapes Go.WideShapes Go.ChangeAt Go.RowKit
set_option linter.unusedVariables false
set_option linter.unusedSimpArgs false
set_option maxRecDepth 20000
attribute [local irreducible] wpList

section
variable {w : World} {s : ByteArray}
theorem rReadE (h : 8 ≤ s.size) (hb : sumOk s = true) : rReadF s = if (rReadT s).2 = 0 then ((rReadT s).1, 0) else (Tk.z, (rReadT s).2) := by
  unfold rReadF
  rw [if_neg (by omega), if_neg (by rw [hb]; simp)]
theorem rread_short (h : s.size < 8) : Calls Tryz.prog 29 #[.string s] w fun e w' => RdPost w Tk.z 3 e w' := by
  have hH := Hp.refl w
  have d1 : decide ((s.size : Int) < 8) = true := decide_eq_true (by omega)
  go_enter Tryz.func29, Tryz.ntmps29
  go_wp2_with (first | (refine st ?_; clear hH; (first | intro W g hH | intro W hH)))
  (refine iRet2 Tryz.results29 tab_ok rfl rfl hH ?_; refine ⟨_, _, rfl, rfl, rfl, ?_⟩)
  exact RdPost.mk (sp := none) (rp := none) (sc := 0) (rc := 0) (D := []) (by rw [tkz_seg]; rfl) ⟨hH.nil, by simp⟩ TkIn.z
theorem rread_sum (hs : s.size ≤ 100000) (h : 8 ≤ s.size) (hb : sumOk s = false) : Calls Tryz.prog 29 #[.string s] w fun e w' => RdPost w Tk.z 4 e w' := by
  have hH := Hp.refl w
  have d1 : decide ((s.size : Int) < 8) = false := decide_eq_false (by omega)
  have hg : ∀ w, Gives Tryz.prog 58 #[.string s] w (.int .i64 (foldN (wsum s.data.toList) : Int)) := fun w => rSum_any (by omega)
  have hx : foldN (wsum s.data.toList) ≠ 65535 := by unfold sumOk at hb; simpa using hb
  generalize foldN (wsum s.data.toList) = x at *
  have d2 : ((x : Int) != 65535) = true := by simp; omega
  clear hb hx
  go_enter Tryz.func29, Tryz.ntmps29
  go_wp2_with (first | (refine st ?_; clear hH; (first | intro W g hH | intro W hH)))
  (refine iRet2 Tryz.results29 tab_ok rfl rfl hH ?_; refine ⟨_, _, rfl, rfl, rfl, ?_⟩)
  exact RdPost.mk (sp := none) (rp := none) (sc := 0) (rc := 0) (D := []) (by rw [tkz_seg]; rfl) ⟨hH.nil, by simp⟩ TkIn.z
set_option maxHeartbeats 2000000 in
theorem rread_17 (hs : s.size ≤ 100000) (h : 8 ≤ s.size) (hb : sumOk s = true) (hk : numAt s 0 1 = 17) : Calls Tryz.prog 29 #[.string s] w fun e w' => RdPost w (rReadF s).1 (rReadF s).2 e w' := by
  have hH := Hp.refl w
  have d1 : decide ((s.size : Int) < 8) = false := decide_eq_false (by omega)
  have hg : ∀ w, Gives Tryz.prog 58 #[.string s] w (.int .i64 65535) := fun w => by
    have := rSum_any (s := s) (w := w) (by omega)
    have e : foldN (wsum s.data.toList) = 65535 := by unfold sumOk at hb; simpa using hb
    rw [e] at this
    exact this
  have i0 : ∀ W, (Instr.index 9 (.string s) (.int .i64 0)).run Tryz.prog W = .ok (.int .u8 17) W := fun W => by
    have := run_at (s := s) (k := 0) (by omega) 0 rfl W
    rw [hk] at this
    exact this
  have he := rReadE h hb
  have hT : rReadT s = rQryF s := by unfold rReadT; rw [if_pos hk]
  rw [hT] at he
  have QP := Lib.hid (show ∀ (W : World) (H : HB) (Q : Ending → World → Prop), Hp w.heap.size w W H → (∀ W' sp sc rp rc D, Hid (TkIn D sp rp (rQryF s).1) → Hid (∀ r ∈ D, r.2.2.1 = true) → Hp w.heap.size w W' (H ++ D) → Q (.returned (.tuple #[.agg (fls (tkS (rQryF s).1 sp sc rp rc)).toArray, .int .i64 (rQryF s).2])) W') → Calls Tryz.prog 65 #[.string s] W Q from fun W H Q hH hQ =>
    (rquery_any h hs).mono fun _ _ ⟨sp, sc, rp, rc, D, he, hm, hr⟩ => by subst he; exact hQ _ sp sc rp rc D (Lib.hid hr) (Lib.hid hm.2) (hH.join hm))
  clear hT hb hk h hs
  generalize rReadF s = RF at *
  subst he
  generalize (rQryF s).2 = ec at *
  generalize (rQryF s).1 = T at *
  obtain ⟨v6, ver, kind, resp, G, quiet, rob, every, src, recs⟩ := T
  unfold tkS at QP
  simp only at QP
  have oG := adL_ok G
  obtain ⟨Y, hY⟩ : ∃ Y, Y = adL G := ⟨_, rfl⟩
  rw [← hY] at QP oG
  have HY := Lib.hid hY
  clear hY
  by_cases hz : ec = 0
  · subst hz
    rw [if_pos rfl]
    go_enter Tryz.func29, Tryz.ntmps29
    go_wp2_with (first | ((go_at_call 65; refine QP.out _ _ _ hH ?_; (clear hH; intro W sp sc rp rc D hT hD hH); (try simp only [List.cons_append, List.nil_append] at hH); ((try simp only [Act.put, pA, pB, pC])))) | (refine st ?_; clear hH; (first | intro W g hH | intro W hH)))
    (refine iRet2 Tryz.results29 tab_ok rfl rfl hH ?_; refine ⟨_, _, rfl, rfl, rfl, ?_⟩)
    exact RdPost.mk (sp := sp) (rp := rp) (sc := sc) (rc := rc) (D := D) (by unfold tkS; simp only; rw [← HY.out]; rfl) ⟨hH.sub (by repeat (first | exact SubH.refl | apply SubH.drop)), hD.out⟩ hT.out
  · have dz : (ec != 0) = true := by simpa using hz
    rw [if_neg hz]
    go_enter Tryz.func29, Tryz.ntmps29
    go_wp2_with (first | ((go_at_call 65; refine QP.out _ _ _ hH ?_; (clear hH; intro W sp sc rp rc D hT hD hH); (try simp only [List.cons_append, List.nil_append] at hH); ((try simp only [Act.put, pA, pB, pC])))) | (refine st ?_; clear hH; (first | intro W g hH | intro W hH)))
    (refine iRet2 Tryz.results29 tab_ok rfl rfl hH ?_; refine ⟨_, _, rfl, rfl, rfl, ?_⟩)
    exact RdPost.mk (sp := none) (rp := none) (sc := 0) (rc := 0) (D := []) (by rw [tkz_seg]; rfl) ⟨hH.nil, by simp⟩ TkIn.z
set_option maxHeartbeats 2000000 in
theorem rread_34 (hs : s.size ≤ 100000) (h : 8 ≤ s.size) (hb : sumOk s = true) (hk : numAt s 0 1 = 34) : Calls Tryz.prog 29 #[.string s] w fun e w' => RdPost w (rReadF s).1 (rReadF s).2 e w' := by
  have hH := Hp.refl w
  have d1 : decide ((s.size : Int) < 8) = false := decide_eq_false (by omega)
  have hg : ∀ w, Gives Tryz.prog 58 #[.string s] w (.int .i64 65535) := fun w => by
    have := rSum_any (s := s) (w := w) (by omega)
    have e : foldN (wsum s.data.toList) = 65535 := by unfold sumOk at hb; simpa using hb
    rw [e] at this
    exact this
  have i0 : ∀ W, (Instr.index 9 (.string s) (.int .i64 0)).run Tryz.prog W = .ok (.int .u8 34) W := fun W => by
    have := run_at (s := s) (k := 0) (by omega) 0 rfl W
    rw [hk] at this
    exact this
  have he := rReadE h hb
  have hT : rReadT s = (⟨false, 3, 2, 0, Ad.z, false, 0, 0, [], (rRecF s).1⟩, (rRecF s).2) := by unfold rReadT; rw [if_neg (by omega), if_pos hk]
  rw [hT] at he
  simp only at he
  have QP := Lib.hid (show ∀ (W : World) (H : HB) (Q : Ending → World → Prop), Hp w.heap.size w W H → (∀ W' p c D, Hid (∀ B w0 W, Hp B w0 W D → RcsAt W p (rRecF s).1) → Hid (∀ r ∈ D, r.2.2.1 = true) → Hp w.heap.size w W' (H ++ D) → Q (.returned (.tuple #[.slice p (rRecF s).1.length c, .int .i64 (rRecF s).2])) W') → Calls Tryz.prog 66 #[.string s] W Q from fun W H Q hH hQ =>
    (rrecords_any h hs).mono fun _ _ ⟨p, c, D, he, hm, hr⟩ => by subst he; exact hQ _ p c D (Lib.hid hr) (Lib.hid hm.2) (hH.join hm))
  clear hT hb hk h hs
  generalize rReadF s = RF at *
  subst he
  generalize (rRecF s).2 = ec at *
  generalize (rRecF s).1 = R at *
  by_cases hz : ec = 0
  · subst hz
    rw [if_pos rfl]
    go_enter Tryz.func29, Tryz.ntmps29
    go_wp2_with (first | ((go_at_call 66; refine QP.out _ _ _ hH ?_; (clear hH; intro W rp rc D hT hD hH); (try simp only [List.cons_append, List.nil_append] at hH); ((try simp only [Act.put, pA, pB, pC])))) | (refine st ?_; clear hH; (first | intro W g hH | intro W hH)))
    (refine iRet2 Tryz.results29 tab_ok rfl rfl hH ?_; refine ⟨_, _, rfl, rfl, rfl, ?_⟩)
    exact RdPost.mk (sp := none) (rp := rp) (sc := 0) (rc := rc) (D := D) (by unfold tkS; simp only; rw [adL_z]; rfl) ⟨hH.sub (by repeat (first | exact SubH.refl | apply SubH.drop)), hD.out⟩ (fun B w0 W h => ⟨AdsAt.nil, hT.out _ _ _ h⟩)
  · have dz : (ec != 0) = true := by simpa using hz
    rw [if_neg hz]
    go_enter Tryz.func29, Tryz.ntmps29
    go_wp2_with (first | ((go_at_call 66; refine QP.out _ _ _ hH ?_; (clear hH; intro W rp rc D hT hD hH); (try simp only [List.cons_append, List.nil_append] at hH); ((try simp only [Act.put, pA, pB, pC])))) | (refine st ?_; clear hH; (first | intro W g hH | intro W hH)))
    (refine iRet2 Tryz.results29 tab_ok rfl rfl hH ?_; refine ⟨_, _, rfl, rfl, rfl, ?_⟩)
    exact RdPost.mk (sp := none) (rp := none) (sc := 0) (rc := 0) (D := []) (by rw [tkz_seg]; rfl) ⟨hH.nil, by simp⟩ TkIn.z
set_option maxHeartbeats 2000000 in
theorem rread_18 (hs : s.size ≤ 100000) (h : 8 ≤ s.size) (hb : sumOk s = true) (hk : numAt s 0 1 = 18 ∨ numAt s 0 1 = 22 ∨ numAt s 0 1 = 23) : Calls Tryz.prog 29 #[.string s] w fun e w' => RdPost w (rReadF s).1 (rReadF s).2 e w' := by
  have hH := Hp.refl w
  have d1 : decide ((s.size : Int) < 8) = false := decide_eq_false (by omega)
  have hg : ∀ w, Gives Tryz.prog 58 #[.string s] w (.int .i64 65535) := fun w => by
    have := rSum_any (s := s) (w := w) (by omega)
    have e : foldN (wsum s.data.toList) = 65535 := by unfold sumOk at hb; simpa using hb
    rw [e] at this
    exact this
  have i0 : ∀ W, (Instr.index 9 (.string s) (.int .i64 0)).run Tryz.prog W = .ok (.int .u8 (numAt s 0 1 : Int)) W := fun W => run_at (s := s) (k := 0) (by omega) 0 rfl W
  have f4 : ∀ w, Gives Tryz.prog 67 #[.string s, .int .i64 4] w (.agg (fls [.many (adL (ad4 s 4)) 17]).toArray) := fun w => rfour_any (k := 4) (by omega) (by omega)
  have f7 : ∀ w, Gives Tryz.prog 68 #[.agg (fls [.many (adL (ad4 s 4)) 17]).toArray] w (.bool (grp4 (ad4 s 4))) := fun w => rGroup4_any
  have he := rReadE h hb
  have hT : rReadT s = (⟨false, if numAt s 0 1 = 18 then 1 else 2, if numAt s 0 1 = 23 then 3 else 2, 0, ad4 s 4, false, 0, 0, [], []⟩, if grp4 (ad4 s 4) then 0 else 2) := by unfold rReadT; rw [if_neg (by omega), if_neg (by omega), if_pos hk]
  rw [hT] at he
  clear hT hb h hs
  generalize rReadF s = RF at *
  subst he
  generalize numAt s 0 1 = k at *
  generalize ad4 s 4 = a at *
  have oA := adL_ok a
  obtain ⟨Y, hY⟩ : ∃ Y, Y = adL a := ⟨_, rfl⟩
  rw [← hY] at f4 f7 oA
  have HY := Lib.hid hY
  clear hY
  cases hgb : grp4 a
  all_goals
    rw [hgb] at f7
    clear hgb
    simp only [if_true, Bool.false_eq_true, if_false]
    rcases hk with rfl | rfl | rfl
    all_goals
      go_enter Tryz.func29, Tryz.ntmps29
      go_wp2_with (first | (refine st ?_; clear hH; (first | intro W g hH | intro W hH)))
      (refine iRet2 Tryz.results29 tab_ok rfl rfl hH ?_; refine ⟨_, _, rfl, rfl, rfl, ?_⟩)
      first | exact RdPost.mk (sp := none) (rp := none) (sc := 0) (rc := 0) (D := []) (by rw [tkz_seg]; rfl) ⟨hH.nil, by simp⟩ TkIn.z | exact RdPost.mk (sp := none) (rp := none) (sc := 0) (rc := 0) (D := []) (by unfold tkS; simp only; rw [← HY.out]; rfl) ⟨hH.nil, by simp⟩ (fun B w0 W h => ⟨AdsAt.nil, RcsAt.nil⟩)
set_option maxHeartbeats 2000000 in
theorem rread_none (hs : s.size ≤ 100000) (h : 8 ≤ s.size) (hb : sumOk s = true) (h1 : numAt s 0 1 ≠ 17) (h2 : numAt s 0 1 ≠ 34) (h3 : ¬(numAt s 0 1 = 18 ∨ numAt s 0 1 = 22 ∨ numAt s 0 1 = 23)) : Calls Tryz.prog 29 #[.string s] w fun e w' => RdPost w (rReadF s).1 (rReadF s).2 e w' := by
  have hH := Hp.refl w
  have d1 : decide ((s.size : Int) < 8) = false := decide_eq_false (by omega)
  have hg : ∀ w, Gives Tryz.prog 58 #[.string s] w (.int .i64 65535) := fun w => by
    have := rSum_any (s := s) (w := w) (by omega)
    have e : foldN (wsum s.data.toList) = 65535 := by unfold sumOk at hb; simpa using hb
    rw [e] at this
    exact this
  have i0 : ∀ W, (Instr.index 9 (.string s) (.int .i64 0)).run Tryz.prog W = .ok (.int .u8 (numAt s 0 1 : Int)) W := fun W => run_at (s := s) (k := 0) (by omega) 0 rfl W
  have he := rReadE h hb
  have hT : rReadT s = (Tk.z, 5) := by unfold rReadT; rw [if_neg h1, if_neg h2, if_neg h3]
  rw [hT, if_neg (by decide)] at he
  clear hT hb h hs
  generalize rReadF s = RF at *
  subst he
  generalize numAt s 0 1 = k at *
  have a1 : ((k : Int) == 17) = false := by simp; omega
  have a2 : ((k : Int) == 34) = false := by simp; omega
  have a3 : ((k : Int) == 18) = false := by simp; omega
  have a4 : ((k : Int) == 22) = false := by simp; omega
  have a5 : ((k : Int) == 23) = false := by simp; omega
  clear h1 h2 h3
  go_enter Tryz.func29, Tryz.ntmps29
  go_wp2_with (first | (refine st ?_; clear hH; (first | intro W g hH | intro W hH)))
  (refine iRet2 Tryz.results29 tab_ok rfl rfl hH ?_; refine ⟨_, _, rfl, rfl, rfl, ?_⟩)
  exact RdPost.mk (sp := none) (rp := none) (sc := 0) (rc := 0) (D := []) (by rw [tkz_seg]; rfl) ⟨hH.nil, by simp⟩ TkIn.z
theorem rread_any (hs : s.size ≤ 100000) : Calls Tryz.prog 29 #[.string s] w fun e w' => RdPost w (rReadF s).1 (rReadF s).2 e w' := by
  by_cases h8 : s.size < 8
  · have e : rReadF s = (Tk.z, 3) := by unfold rReadF; rw [if_pos h8]
    rw [e]
    exact rread_short h8
  have h := Nat.le_of_not_lt h8
  cases hb : sumOk s
  · have e : rReadF s = (Tk.z, 4) := by unfold rReadF; rw [if_neg h8, if_pos hb]
    rw [e]
    exact rread_sum hs h hb
  by_cases h1 : numAt s 0 1 = 17
  · exact rread_17 hs h hb h1
  by_cases h2 : numAt s 0 1 = 34
  · exact rread_34 hs h hb h2
  by_cases h3 : numAt s 0 1 = 18 ∨ numAt s 0 1 = 22 ∨ numAt s 0 1 = 23
  · exact rread_18 hs h hb h3
  exact rread_none hs h hb h1 h2 h3
end
end Go.Proofs.YtdnehjhijmeihaaGreat
