/-
  Joined texts: Vi, Vl, Vr, Vo, Vt.
-/
import Derived.Test.YtdnehjhijmeihaaGreatQVgh
import Derived.Test.YtdnehjhijmeihaaGreatQPs
import Derived.Test.YtdnehjhijmeihaaGreatQJm
import Derived.Test.YtdnehjhijmeihaaGreatQSl
import Derived.Test.YtdnehjhijmeihaaGreatQVj
import Derived.Test.YtdnehjhijmeihaaGreatQTg
namespace Go.Proofs.YtdnehjhijmeihaaGreat.V
open Go.ChangeShapes Go.WideShapes Go.ChangeAt Go.RowKit
set_option linter.unusedVariables false
set_option linter.unusedSimpArgs false
set_option maxRecDepth 20000
attribute [local irreducible] wpList
def psB (f t : Ad) (n : Nat) : ByteArray := pseudoB (f.v || t.v) f.b t.b 58 n
def sumOk6 (f t : Ad) (s : ByteArray) : Bool := decide (foldN (wsum ((psB f t s.size).data.toList ++ s.data.toList)) = 65535)
def st0 : St := ⟨0, false, 0⟩
def kindF (s : ByteArray) : Nat := numV s 1 st0
def st2 (s : ByteArray) : St := stepS s 3 (stepS s 1 st0)
noncomputable def readT (s : ByteArray) : Tk × St :=
  if kindF s = 130 then oneF s (st2 s) 1 s.size
  else if kindF s = 131 then oneF s (st2 s) 2 s.size
  else if kindF s = 132 then oneF s (st2 s) 3 s.size
  else if kindF s = 143 then (⟨true, 2, 2, 0, Ad.z, false, 0, 0, [], (repF s (st2 s)).1⟩, (repF s (st2 s)).2)
  else (Tk.z, ⟨(st2 s).k, (st2 s).b, 5⟩)
noncomputable def readF (f t : Ad) (s : ByteArray) : Tk × Int :=
  if (f.v && t.v) = false then (Tk.z, 1) else if s.size < 8 then (Tk.z, 3) else if sumOk6 f t s = false then (Tk.z, 4) else if (readT s).2.e = 0 then ((readT s).1, 0) else (Tk.z, (readT s).2.e)
theorem tkz_seg : fls (tkS Tk.z none 0 none 0) = fls [.one (.bool false), .one (.int .i64 0), .one (.int .i64 0), .one (.int .i64 0), .many (zeroL Tryz.prog 25) 17, .one (.bool false), .one (.int .i64 0), .one (.int .i64 0), .one (.slice none 0 0), .one (.slice none 0 0)] := by
  rw [← adL_z]
  rfl
theorem zadr_ok : OkA (zeroL Tryz.prog 25) 17 := by rw [← adL_z]; exact adL_ok _
def RdPost (w : World) (T : Tk) (c : Int) (e : Ending) (w' : World) : Prop := ∃ sp sc rp rc D, e = .returned (.tuple #[.agg (fls (tkS T sp sc rp rc)).toArray, .int .i64 c]) ∧ Made w w' D ∧ TkIn D sp rp T
theorem RdPost.mk {w : World} {T : Tk} {c : Int} {e : Ending} {w' : World} {sp rp : Option Addr} {sc rc : Nat} {D : HB} (h1 : e = .returned (.tuple #[.agg (fls (tkS T sp sc rp rc)).toArray, .int .i64 c])) (h2 : Made w w' D) (h3 : TkIn D sp rp T) : RdPost w T c e w' := ⟨sp, sc, rp, rc, D, h1, h2, h3⟩
theorem TkIn.z {D : HB} : TkIn D none none Tk.z := fun _ _ _ _ => ⟨AdsAt.nil, RcsAt.nil⟩
theorem oneF_recs (s : ByteArray) (t : St) (kd : Int) (n : Nat) : (oneF s t kd n).1.recs = [] := by
  unfold oneF
  simp only
  split
  · split <;> rfl
  · rfl
section
variable {w : World} {s : ByteArray} {f t : Ad}
theorem ad_cs (a : Ad) : AdrCs (addrV a.v a.b) a.v a.b := ⟨rfl, a.h⟩
theorem psB_any {n : Nat} (hn : n < 9223372036854775808) : Gives Tryz.prog 175 #[.agg (fls [.many (adL f) 17]).toArray, .agg (fls [.many (adL t) 17]).toArray, .int .i64 58, .int .i64 (n : Int)] w (.string (psB f t n)) := by
  rw [← rg_segs, ← rg_segs]
  exact pseudo_any (p := 58) (ad_cs f) (ad_cs t) (by decide +kernel) (by omega) (u64_small (by omega)) (by omega)
theorem vpseudo_any {n : Nat} (hn : n < 9223372036854775808) : Gives Tryz.prog 129 #[.agg (fls [.many (adL f) 17]).toArray, .agg (fls [.many (adL t) 17]).toArray, .int .i64 (n : Int)] w (.string (psB f t n)) := by
  have f1 : ∀ w, Gives Tryz.prog 175 #[.agg (fls [.many (adL f) 17]).toArray, .agg (fls [.many (adL t) 17]).toArray, .int .i64 58, .int .i64 (n : Int)] w (.string (psB f t n)) := fun w => psB_any hn
  have oF := adL_ok f
  have oT := adL_ok t
  generalize psB f t n = r at *
  generalize adL f = F at *
  generalize adL t = G at *
  refine Gives.of ?_
  have hH := Hp.refl w
  go_enter Tryz.func129, Tryz.ntmps129
  go_wp2_with (refine st ?_; clear hH; first | intro W g hH | intro W hH)
  go_ret
  exact ⟨rfl, hH.below⟩
theorem psB_size (n : Nat) : (psB f t n).size ≤ 100 := by
  unfold psB pseudoB
  have h1 := f.h
  have h2 := t.h
  split
  · simp only [ByteArray.size_append, str_size, putL_length]; omega
  · simp only [ByteArray.size_append, str_size, putL_length, List.length_take]; omega
theorem vsgood_any (hs : s.size ≤ 100000) {W : World} {g c : Nat} (h : Row W g 9 (fls [.one (.string (psB f t s.size)), .one (.string s)]).toArray) : Gives Tryz.prog 151 #[.slice (some ⟨g, 0, none⟩) 2 c] W (.bool (sumOk6 f t s)) := by
  have hp := psB_size (f := f) (t := t) s.size
  have h := Good_row (m := 2) (c := c) (ss := [psB f t s.size, s]) rfl ⟨by simp; omega, by simp⟩ (by simpa [fls] using h)
  rwa [show flat [psB f t s.size, s] = (psB f t s.size).data.toList ++ s.data.toList by simp only [flat, List.flatMap_cons, List.flatMap_nil, List.append_nil]] at h
theorem vsix2_any {W : World} {g c : Nat} {ty : TypeId} (h : Row W g ty (fls [.many (adL f) 17, .many (adL t) 17]).toArray) : Gives Tryz.prog 124 #[.slice (some ⟨g, 0, none⟩) 2 c] W (.bool (f.v && t.v)) := by
  have h := vsix_any (c := c) (adsAt_row (L := [f, t]) (J := []) (by simp) (by simpa [fls, adsL] using h))
  simpa using h
theorem pre2 (B : Nat) (w0 : World) (hs : s.size ≤ 100000) : ∃ (t1 : St) (v3 : Nat), (∀ g gr, NumC B w0 g gr s 1 st0 (kindF s) t1) ∧ (∀ g gr, NumC B w0 g gr s 3 t1 v3 (st2 s)) ∧ (st2 s).k ≤ s.size :=
  ⟨_, _, fun g gr => numC (by omega) hs (Nat.zero_le _), fun g gr => numC (by omega) hs (stepS_k (Nat.zero_le _)), stepS_k (stepS_k (Nat.zero_le _))⟩
set_option maxHeartbeats 8000000 in
theorem vread_six (h : (f.v && t.v) = false) : Calls Tryz.prog 110 #[.string s, .agg (fls [.many (adL f) 17]).toArray, .agg (fls [.many (adL t) 17]).toArray] w fun e w' => RdPost w Tk.z 1 e w' := by
  have hH := Hp.refl w
  have hsix := Lib.hid (fun (W : World) (g c : Nat) (ty : TypeId) (h : Row W g ty (fls [.many (adL f) 17, .many (adL t) 17]).toArray) => vsix2_any (c := c) h)
  have oF := adL_ok f
  have oT := adL_ok t
  rw [h] at hsix
  clear h
  generalize adL f = F at *
  generalize adL t = G at *
  go_enter Tryz.func110, Tryz.ntmps110
  go_wp2_with (first | ((go_at_call 124; refine callR 0 hH rfl (fun hr => hsix.out _ _ _ _ hr) ?_; (clear hH; (first | intro W g hH | intro W hH); (try simp only [Act.put, pA, pB, pC])))) | (refine st ?_; clear hH; first | intro W g hH | intro W hH))
  (refine iRet2 Tryz.results110 tab_ok rfl rfl hH ?_; refine ⟨_, _, rfl, rfl, rfl, ?_⟩)
  exact RdPost.mk (sp := none) (rp := none) (sc := 0) (rc := 0) (D := []) (by rw [tkz_seg]; rfl) ⟨hH.nil, by simp⟩ TkIn.z
set_option maxHeartbeats 8000000 in
theorem vread_short (h : (f.v && t.v) = true) (h8 : s.size < 8) : Calls Tryz.prog 110 #[.string s, .agg (fls [.many (adL f) 17]).toArray, .agg (fls [.many (adL t) 17]).toArray] w fun e w' => RdPost w Tk.z 3 e w' := by
  have hH := Hp.refl w
  have hsix := Lib.hid (fun (W : World) (g c : Nat) (ty : TypeId) (h : Row W g ty (fls [.many (adL f) 17, .many (adL t) 17]).toArray) => vsix2_any (c := c) h)
  have oF := adL_ok f
  have oT := adL_ok t
  rw [h] at hsix
  clear h
  have d1 : decide ((s.size : Int) < 8) = true := decide_eq_true (by omega)
  generalize adL f = F at *
  generalize adL t = G at *
  go_enter Tryz.func110, Tryz.ntmps110
  go_wp2_with (first | ((go_at_call 124; refine callR 0 hH rfl (fun hr => hsix.out _ _ _ _ hr) ?_; (clear hH; (first | intro W g hH | intro W hH); (try simp only [Act.put, pA, pB, pC])))) | (refine st ?_; clear hH; first | intro W g hH | intro W hH))
  (refine iRet2 Tryz.results110 tab_ok rfl rfl hH ?_; refine ⟨_, _, rfl, rfl, rfl, ?_⟩)
  exact RdPost.mk (sp := none) (rp := none) (sc := 0) (rc := 0) (D := []) (by rw [tkz_seg]; rfl) ⟨hH.nil, by simp⟩ TkIn.z
set_option maxHeartbeats 8000000 in
theorem vread_sum (hs : s.size ≤ 100000) (h : (f.v && t.v) = true) (h8 : 8 ≤ s.size) (hb : sumOk6 f t s = false) : Calls Tryz.prog 110 #[.string s, .agg (fls [.many (adL f) 17]).toArray, .agg (fls [.many (adL t) 17]).toArray] w fun e w' => RdPost w Tk.z 4 e w' := by
  have hH := Hp.refl w
  have hsix := Lib.hid (fun (W : World) (g c : Nat) (ty : TypeId) (h : Row W g ty (fls [.many (adL f) 17, .many (adL t) 17]).toArray) => vsix2_any (c := c) h)
  have oF := adL_ok f
  have oT := adL_ok t
  rw [h] at hsix
  have d1 : decide ((s.size : Int) < 8) = false := decide_eq_false (by omega)
  have hgood := Lib.hid (fun (W : World) (g c : Nat) h => vsgood_any (f := f) (t := t) (c := c) hs (W := W) (g := g) h)
  have hp : ∀ w, Gives Tryz.prog 129 #[.agg (fls [.many (adL f) 17]).toArray, .agg (fls [.many (adL t) 17]).toArray, .int .i64 (s.size : Int)] w (.string (psB f t s.size)) := fun w => vpseudo_any (by omega)
  rw [hb] at hgood
  clear h hb
  generalize psB f t s.size = PB at *
  generalize adL f = F at *
  generalize adL t = G at *
  go_enter Tryz.func110, Tryz.ntmps110
  go_wp2_with (first | ((go_at_call 124; refine callR 0 hH rfl (fun hr => hsix.out _ _ _ _ hr) ?_; (clear hH; (first | intro W g hH | intro W hH); (try simp only [Act.put, pA, pB, pC])))) | ((go_at_call 151; refine callR 0 hH rfl (fun hr => hgood.out _ _ _ hr) ?_; (clear hH; (first | intro W g hH | intro W hH); (try simp only [Act.put, pA, pB, pC])))) | (refine st ?_; clear hH; first | intro W g hH | intro W hH))
  (refine iRet2 Tryz.results110 tab_ok rfl rfl hH ?_; refine ⟨_, _, rfl, rfl, rfl, ?_⟩)
  exact RdPost.mk (sp := none) (rp := none) (sc := 0) (rc := 0) (D := []) (by rw [tkz_seg]; rfl) ⟨hH.nil, by simp⟩ TkIn.z
set_option maxHeartbeats 8000000 in
theorem vread_one (hs : s.size ≤ 100000) (h : (f.v && t.v) = true) (h8 : 8 ≤ s.size) (hb : sumOk6 f t s = true) {kd : Int} (hk : (kindF s = 130 ∧ kd = 1) ∨ (kindF s = 131 ∧ kd = 2) ∨ (kindF s = 132 ∧ kd = 3)) : Calls Tryz.prog 110 #[.string s, .agg (fls [.many (adL f) 17]).toArray, .agg (fls [.many (adL t) 17]).toArray] w fun e w' => RdPost w (readF f t s).1 (readF f t s).2 e w' := by
  have hH := Hp.refl w
  have hsix := Lib.hid (fun (W : World) (g c : Nat) (ty : TypeId) (h : Row W g ty (fls [.many (adL f) 17, .many (adL t) 17]).toArray) => vsix2_any (c := c) h)
  have oF := adL_ok f
  have oT := adL_ok t
  obtain ⟨t1, v3, N1, N3, hk2⟩ := pre2 w.heap.size w hs
  replace N1 := Lib.hid N1
  replace N3 := Lib.hid N3
  have oZ := zadr_ok
  have he : readF f t s = if (readT s).2.e = 0 then ((readT s).1, 0) else (Tk.z, (readT s).2.e) := by unfold readF; rw [if_neg (by rw [h]; simp), if_neg (by omega), if_neg (by rw [hb]; simp)]
  obtain ⟨⟨v6, ver, kd', resp, a, quiet, rob, every, src, recs⟩, t5, hres⟩ : ∃ R t, oneF s (st2 s) kd s.size = (R, t) := ⟨_, _, rfl⟩
  have hrec : recs = [] := by have := oneF_recs s (st2 s) kd s.size; rw [hres] at this; exact this
  subst hrec
  have hT : readT s = (⟨v6, ver, kd', resp, a, quiet, rob, every, src, []⟩, t5) := by
    unfold readT
    rcases hk with ⟨h1, rfl⟩ | ⟨h1, rfl⟩ | ⟨h1, rfl⟩
    · rw [if_pos h1, hres]
    · rw [if_neg (by omega), if_pos h1, hres]
    · rw [if_neg (by omega), if_neg (by omega), if_pos h1, hres]
  have hkd : kd = 1 ∨ kd = 2 ∨ kd = 3 := by omega
  have RP := Lib.hid (show ∀ (W : World) (H : HB) (Q : Ending → World → Prop) (g gr : Nat), Hp w.heap.size w W (rdH g gr s (st2 s) true 1 kd 0 (zeroL Tryz.prog 25) false 0 0 none 0 0 none 0 0 H) → (∀ W' sp sc D, Hid (∀ B w0 W, Hp B w0 W D → AdsAt W sp src) → Hid (∀ r ∈ D, r.2.2.1 = true) → Hp w.heap.size w W' (rdH g gr s t5 v6 ver kd' resp (adL a) quiet rob every sp src.length sc none 0 0 (H ++ D)) → Q (.returned (.tuple #[])) W') → Calls Tryz.prog 153 #[.pointer (some ⟨g, 0, none⟩), .int .i64 (s.size : Int)] W Q from fun W H Q g gr hH hQ => by
      refine vone_any (k := (st2 s).k) (b := (st2 s).b) (e := (st2 s).e) zadr_ok hkd hs hs hk2 hH ?_
      intro W' R2 t2 D sp sc e hA hD hH
      have e2 := e.out.symm.trans hres
      injection e2 with e3 e4
      subst e3
      subst e4
      exact hQ W' sp sc D hA hD hH)
  rw [hT] at he
  clear hT hres hk2
  generalize kindF s = kn at *
  generalize st2 s = t3 at *
  obtain ⟨k3, b3, e3⟩ := t3
  rw [h] at hsix
  have d1 : decide ((s.size : Int) < 8) = false := decide_eq_false (by omega)
  have hgood := Lib.hid (fun (W : World) (g c : Nat) h => vsgood_any (f := f) (t := t) (c := c) hs (W := W) (g := g) h)
  have hp : ∀ w, Gives Tryz.prog 129 #[.agg (fls [.many (adL f) 17]).toArray, .agg (fls [.many (adL t) 17]).toArray, .int .i64 (s.size : Int)] w (.string (psB f t s.size)) := fun w => vpseudo_any (by omega)
  rw [hb] at hgood
  clear h hb
  generalize psB f t s.size = PB at *
  generalize adL f = F at *
  generalize adL t = G at *
  have oA := adL_ok a
  obtain ⟨A, hA⟩ : ∃ Y, Y = adL a := ⟨_, rfl⟩
  have HA := Lib.hid hA
  rw [← hA] at RP oA
  clear hA hs h8 hkd
  obtain ⟨k5, b5, e5⟩ := t5
  simp only at he
  rcases hk with ⟨rfl, rfl⟩ | ⟨rfl, rfl⟩ | ⟨rfl, rfl⟩
  all_goals
    by_cases hz : e5 = 0
    · subst hz
      rw [if_pos rfl] at he
      rw [he]
      clear he
      go_enter Tryz.func110, Tryz.ntmps110
      go_wp2_with (first | ((go_at_call 124; refine callR 0 hH rfl (fun hr => hsix.out _ _ _ _ hr) ?_; (clear hH; (first | intro W g hH | intro W hH); (try simp only [Act.put, pA, pB, pC])))) | ((go_at_call 151; refine callR 0 hH rfl (fun hr => hgood.out _ _ _ hr) ?_; (clear hH; (first | intro W g hH | intro W hH); (try simp only [Act.put, pA, pB, pC])))) | ((go_at_call 47; refine hNew hH ?_; (clear hH; intro W gr hH); ((try simp only [Act.put, pA, pB, pC])))) | ((go_at_call 152; (first | refine N1.out _ _ _ _ _ _ _ _ 0 1 ?_ rfl hH rfl rfl rfl rfl ?_ | refine N3.out _ _ _ _ _ _ _ _ 0 1 ?_ rfl hH rfl rfl rfl rfl ?_); (focus assumption); (clear hH; (first | intro W g hH | intro W hH); (try simp only [Act.put, pA, pB, pC])))) | ((go_at_call 153; refine RP.out _ _ _ _ _ hH ?_; (clear hH; intro W sp sc D hA hD hH); (try simp only [List.cons_append, List.nil_append] at hH); ((try simp only [Act.put, pA, pB, pC])))) | (refine st ?_; clear hH; first | intro W g hH | intro W hH))
      (refine iRet2 Tryz.results110 tab_ok rfl rfl hH ?_; refine ⟨_, _, rfl, rfl, rfl, ?_⟩)
      refine RdPost.mk (sp := sp) (rp := none) (sc := sc) (rc := 0) (D := D) (by unfold tkS; simp only; rw [← HA.out]; rfl) ⟨hH.sub (by repeat (first | exact SubH.refl | apply SubH.drop)), hD.out⟩ (fun B w0 W h => ⟨hA.out _ _ _ h, RcsAt.nil⟩)
    · have d2 : (e5 != 0) = true := by simpa using hz
      rw [if_neg hz] at he
      rw [he]
      clear he
      go_enter Tryz.func110, Tryz.ntmps110
      go_wp2_with (first | ((go_at_call 124; refine callR 0 hH rfl (fun hr => hsix.out _ _ _ _ hr) ?_; (clear hH; (first | intro W g hH | intro W hH); (try simp only [Act.put, pA, pB, pC])))) | ((go_at_call 151; refine callR 0 hH rfl (fun hr => hgood.out _ _ _ hr) ?_; (clear hH; (first | intro W g hH | intro W hH); (try simp only [Act.put, pA, pB, pC])))) | ((go_at_call 47; refine hNew hH ?_; (clear hH; intro W gr hH); ((try simp only [Act.put, pA, pB, pC])))) | ((go_at_call 152; (first | refine N1.out _ _ _ _ _ _ _ _ 0 1 ?_ rfl hH rfl rfl rfl rfl ?_ | refine N3.out _ _ _ _ _ _ _ _ 0 1 ?_ rfl hH rfl rfl rfl rfl ?_); (focus assumption); (clear hH; (first | intro W g hH | intro W hH); (try simp only [Act.put, pA, pB, pC])))) | ((go_at_call 153; refine RP.out _ _ _ _ _ hH ?_; (clear hH; intro W sp sc D hA hD hH); (try simp only [List.cons_append, List.nil_append] at hH); ((try simp only [Act.put, pA, pB, pC])))) | (refine st ?_; clear hH; first | intro W g hH | intro W hH))
      ((with_reducible refine regKN [] hH (SubH.keep SubH.nil) (by kernel_rfl) ?_); (clear hH; intro W hH); refine kt [0, 1, 2, 3] ?_; refine kl [4] ?_; refine ko 5 ?_; go_wp2_with (refine st ?_; clear hH; first | intro W g hH | intro W hH); refine ke ?_; refine kt [6] ?_; refine hk_endN (by kernel_rfl) ?_)
      go_wp2_with (refine st ?_; clear hH; first | intro W g hH | intro W hH)
      (refine iRet2 Tryz.results110 tab_ok rfl rfl hH ?_; refine ⟨_, _, rfl, rfl, rfl, ?_⟩)
      exact RdPost.mk (sp := none) (rp := none) (sc := 0) (rc := 0) (D := []) (by rw [tkz_seg]; rfl) ⟨hH.nil, by simp⟩ TkIn.z
set_option maxHeartbeats 8000000 in
theorem vread_recs (hs : s.size ≤ 100000) (h : (f.v && t.v) = true) (h8 : 8 ≤ s.size) (hb : sumOk6 f t s = true) (hk : kindF s = 143) : Calls Tryz.prog 110 #[.string s, .agg (fls [.many (adL f) 17]).toArray, .agg (fls [.many (adL t) 17]).toArray] w fun e w' => RdPost w (readF f t s).1 (readF f t s).2 e w' := by
  have hH := Hp.refl w
  have hsix := Lib.hid (fun (W : World) (g c : Nat) (ty : TypeId) (h : Row W g ty (fls [.many (adL f) 17, .many (adL t) 17]).toArray) => vsix2_any (c := c) h)
  have oF := adL_ok f
  have oT := adL_ok t
  obtain ⟨t1, v3, N1, N3, hk2⟩ := pre2 w.heap.size w hs
  replace N1 := Lib.hid N1
  replace N3 := Lib.hid N3
  have oZ := zadr_ok
  have he : readF f t s = if (readT s).2.e = 0 then ((readT s).1, 0) else (Tk.z, (readT s).2.e) := by unfold readF; rw [if_neg (by rw [h]; simp), if_neg (by omega), if_neg (by rw [hb]; simp)]
  obtain ⟨R, t5, hres⟩ : ∃ R t, repF s (st2 s) = (R, t) := ⟨_, _, rfl⟩
  have hT : readT s = (⟨true, 2, 2, 0, Ad.z, false, 0, 0, [], R⟩, t5) := by unfold readT; rw [if_neg (by omega), if_neg (by omega), if_neg (by omega), if_pos hk, hres]
  have RP := Lib.hid (show ∀ (W : World) (H : HB) (Q : Ending → World → Prop) (g gr : Nat), Hp w.heap.size w W (rdH g gr s (st2 s) true 2 2 0 (zeroL Tryz.prog 25) false 0 0 none 0 0 none 0 0 H) → (∀ W' rp rc D, Hid (∀ B w0 W, Hp B w0 W D → RcsAt W rp R) → Hid (∀ r ∈ D, r.2.2.1 = true) → Hp w.heap.size w W' (rdH g gr s t5 true 2 2 0 (zeroL Tryz.prog 25) false 0 0 none 0 0 rp R.length rc (H ++ D)) → Q (.returned (.tuple #[])) W') → Calls Tryz.prog 154 #[.pointer (some ⟨g, 0, none⟩)] W Q from fun W H Q g gr hH hQ => by
      refine vrecords_any zadr_ok hs hk2 hH ?_
      intro W' R2 t2 D rp rc e hA hD hH
      have e2 := e.out.symm.trans hres
      injection e2 with e3 e4
      subst e3
      subst e4
      exact hQ W' rp rc D hA hD hH)
  rw [hT] at he
  clear hT hres hk2
  rw [hk] at N1
  clear hk
  generalize st2 s = t3 at *
  obtain ⟨k3, b3, e3⟩ := t3
  rw [h] at hsix
  have d1 : decide ((s.size : Int) < 8) = false := decide_eq_false (by omega)
  have hgood := Lib.hid (fun (W : World) (g c : Nat) h => vsgood_any (f := f) (t := t) (c := c) hs (W := W) (g := g) h)
  have hp : ∀ w, Gives Tryz.prog 129 #[.agg (fls [.many (adL f) 17]).toArray, .agg (fls [.many (adL t) 17]).toArray, .int .i64 (s.size : Int)] w (.string (psB f t s.size)) := fun w => vpseudo_any (by omega)
  rw [hb] at hgood
  clear h hb
  generalize psB f t s.size = PB at *
  generalize adL f = F at *
  generalize adL t = G at *
  clear hs h8
  obtain ⟨k5, b5, e5⟩ := t5
  simp only at he
  by_cases hz : e5 = 0
  · subst hz
    rw [if_pos rfl] at he
    rw [he]
    clear he
    go_enter Tryz.func110, Tryz.ntmps110
    go_wp2_with (first | ((go_at_call 124; refine callR 0 hH rfl (fun hr => hsix.out _ _ _ _ hr) ?_; (clear hH; (first | intro W g hH | intro W hH); (try simp only [Act.put, pA, pB, pC])))) | ((go_at_call 151; refine callR 0 hH rfl (fun hr => hgood.out _ _ _ hr) ?_; (clear hH; (first | intro W g hH | intro W hH); (try simp only [Act.put, pA, pB, pC])))) | ((go_at_call 47; refine hNew hH ?_; (clear hH; intro W gr hH); ((try simp only [Act.put, pA, pB, pC])))) | ((go_at_call 152; (first | refine N1.out _ _ _ _ _ _ _ _ 0 1 ?_ rfl hH rfl rfl rfl rfl ?_ | refine N3.out _ _ _ _ _ _ _ _ 0 1 ?_ rfl hH rfl rfl rfl rfl ?_); (focus assumption); (clear hH; (first | intro W g hH | intro W hH); (try simp only [Act.put, pA, pB, pC])))) | ((go_at_call 154; refine RP.out _ _ _ _ _ hH ?_; (clear hH; intro W rp rc D hA hD hH); (try simp only [List.cons_append, List.nil_append] at hH); ((try simp only [Act.put, pA, pB, pC])))) | (refine st ?_; clear hH; first | intro W g hH | intro W hH))
    (refine iRet2 Tryz.results110 tab_ok rfl rfl hH ?_; refine ⟨_, _, rfl, rfl, rfl, ?_⟩)
    refine RdPost.mk (sp := none) (rp := rp) (sc := 0) (rc := rc) (D := D) (by unfold tkS; simp only; rw [adL_z]; rfl) ⟨hH.sub (by repeat (first | exact SubH.refl | apply SubH.drop)), hD.out⟩ (fun B w0 W h => ⟨AdsAt.nil, hA.out _ _ _ h⟩)
  · have d2 : (e5 != 0) = true := by simpa using hz
    rw [if_neg hz] at he
    rw [he]
    clear he
    go_enter Tryz.func110, Tryz.ntmps110
    go_wp2_with (first | ((go_at_call 124; refine callR 0 hH rfl (fun hr => hsix.out _ _ _ _ hr) ?_; (clear hH; (first | intro W g hH | intro W hH); (try simp only [Act.put, pA, pB, pC])))) | ((go_at_call 151; refine callR 0 hH rfl (fun hr => hgood.out _ _ _ hr) ?_; (clear hH; (first | intro W g hH | intro W hH); (try simp only [Act.put, pA, pB, pC])))) | ((go_at_call 47; refine hNew hH ?_; (clear hH; intro W gr hH); ((try simp only [Act.put, pA, pB, pC])))) | ((go_at_call 152; (first | refine N1.out _ _ _ _ _ _ _ _ 0 1 ?_ rfl hH rfl rfl rfl rfl ?_ | refine N3.out _ _ _ _ _ _ _ _ 0 1 ?_ rfl hH rfl rfl rfl rfl ?_); (focus assumption); (clear hH; (first | intro W g hH | intro W hH); (try simp only [Act.put, pA, pB, pC])))) | ((go_at_call 154; refine RP.out _ _ _ _ _ hH ?_; (clear hH; intro W rp rc D hA hD hH); (try simp only [List.cons_append, List.nil_append] at hH); ((try simp only [Act.put, pA, pB, pC])))) | (refine st ?_; clear hH; first | intro W g hH | intro W hH))
    ((with_reducible refine regKN [] hH (SubH.keep SubH.nil) (by kernel_rfl) ?_); (clear hH; intro W hH); refine kt [0, 1, 2, 3] ?_; refine kl [4] ?_; refine ko 5 ?_; go_wp2_with (refine st ?_; clear hH; first | intro W g hH | intro W hH); refine ke ?_; refine kt [6] ?_; refine hk_endN (by kernel_rfl) ?_)
    go_wp2_with (refine st ?_; clear hH; first | intro W g hH | intro W hH)
    (refine iRet2 Tryz.results110 tab_ok rfl rfl hH ?_; refine ⟨_, _, rfl, rfl, rfl, ?_⟩)
    exact RdPost.mk (sp := none) (rp := none) (sc := 0) (rc := 0) (D := []) (by rw [tkz_seg]; rfl) ⟨hH.nil, by simp⟩ TkIn.z
set_option maxHeartbeats 8000000 in
theorem vread_none (hs : s.size ≤ 100000) (h : (f.v && t.v) = true) (h8 : 8 ≤ s.size) (hb : sumOk6 f t s = true) (h1 : kindF s ≠ 130) (h2 : kindF s ≠ 131) (h3 : kindF s ≠ 132) (h4 : kindF s ≠ 143) : Calls Tryz.prog 110 #[.string s, .agg (fls [.many (adL f) 17]).toArray, .agg (fls [.many (adL t) 17]).toArray] w fun e w' => RdPost w (readF f t s).1 (readF f t s).2 e w' := by
  have hH := Hp.refl w
  have hsix := Lib.hid (fun (W : World) (g c : Nat) (ty : TypeId) (h : Row W g ty (fls [.many (adL f) 17, .many (adL t) 17]).toArray) => vsix2_any (c := c) h)
  have oF := adL_ok f
  have oT := adL_ok t
  obtain ⟨t1, v3, N1, N3, hk2⟩ := pre2 w.heap.size w hs
  replace N1 := Lib.hid N1
  replace N3 := Lib.hid N3
  have oZ := zadr_ok
  have he : readF f t s = if (readT s).2.e = 0 then ((readT s).1, 0) else (Tk.z, (readT s).2.e) := by unfold readF; rw [if_neg (by rw [h]; simp), if_neg (by omega), if_neg (by rw [hb]; simp)]
  have hT : readT s = (Tk.z, ⟨(st2 s).k, (st2 s).b, 5⟩) := by unfold readT; rw [if_neg h1, if_neg h2, if_neg h3, if_neg h4]
  rw [hT, if_neg (show ¬ (5 : Int) = 0 by decide)] at he
  rw [he]
  clear hT he
  generalize kindF s = kn at *
  generalize st2 s = t3 at *
  obtain ⟨k3, b3, e3⟩ := t3
  rw [h] at hsix
  have d1 : decide ((s.size : Int) < 8) = false := decide_eq_false (by omega)
  have hgood := Lib.hid (fun (W : World) (g c : Nat) h => vsgood_any (f := f) (t := t) (c := c) hs (W := W) (g := g) h)
  have hp : ∀ w, Gives Tryz.prog 129 #[.agg (fls [.many (adL f) 17]).toArray, .agg (fls [.many (adL t) 17]).toArray, .int .i64 (s.size : Int)] w (.string (psB f t s.size)) := fun w => vpseudo_any (by omega)
  rw [hb] at hgood
  clear h hb
  generalize psB f t s.size = PB at *
  generalize adL f = F at *
  generalize adL t = G at *
  have a1 : ((kn : Int) == 130) = false := by simp; omega
  have a2 : ((kn : Int) == 131) = false := by simp; omega
  have a3 : ((kn : Int) == 132) = false := by simp; omega
  have a4 : ((kn : Int) == 143) = false := by simp; omega
  clear h1 h2 h3 h4 hs h8 hk2
  go_enter Tryz.func110, Tryz.ntmps110
  go_wp2_with (first | ((go_at_call 124; refine callR 0 hH rfl (fun hr => hsix.out _ _ _ _ hr) ?_; (clear hH; (first | intro W g hH | intro W hH); (try simp only [Act.put, pA, pB, pC])))) | ((go_at_call 151; refine callR 0 hH rfl (fun hr => hgood.out _ _ _ hr) ?_; (clear hH; (first | intro W g hH | intro W hH); (try simp only [Act.put, pA, pB, pC])))) | ((go_at_call 47; refine hNew hH ?_; (clear hH; intro W gr hH); ((try simp only [Act.put, pA, pB, pC])))) | ((go_at_call 152; (first | refine N1.out _ _ _ _ _ _ _ _ 0 1 ?_ rfl hH rfl rfl rfl rfl ?_ | refine N3.out _ _ _ _ _ _ _ _ 0 1 ?_ rfl hH rfl rfl rfl rfl ?_); (focus assumption); (clear hH; (first | intro W g hH | intro W hH); (try simp only [Act.put, pA, pB, pC])))) | (refine st ?_; clear hH; first | intro W g hH | intro W hH))
  ((with_reducible refine regKN [] hH (SubH.keep SubH.nil) (by kernel_rfl) ?_); (clear hH; intro W hH); refine kt [0, 1, 2, 3] ?_; refine kl [4] ?_; refine ko 5 ?_; go_wp2_with (refine st ?_; clear hH; first | intro W g hH | intro W hH); refine ke ?_; refine kt [6] ?_; refine hk_endN (by kernel_rfl) ?_)
  go_wp2_with (refine st ?_; clear hH; first | intro W g hH | intro W hH)
  (refine iRet2 Tryz.results110 tab_ok rfl rfl hH ?_; refine ⟨_, _, rfl, rfl, rfl, ?_⟩)
  exact RdPost.mk (sp := none) (rp := none) (sc := 0) (rc := 0) (D := []) (by rw [tkz_seg]; rfl) ⟨hH.nil, by simp⟩ TkIn.z
theorem vread_any (hs : s.size ≤ 100000) : Calls Tryz.prog 110 #[.string s, .agg (fls [.many (adL f) 17]).toArray, .agg (fls [.many (adL t) 17]).toArray] w fun e w' => RdPost w (readF f t s).1 (readF f t s).2 e w' := by
  cases h : (f.v && t.v)
  · have e : readF f t s = (Tk.z, 1) := by unfold readF; rw [if_pos h]
    rw [e]
    exact vread_six h
  by_cases h8 : s.size < 8
  · have e : readF f t s = (Tk.z, 3) := by unfold readF; rw [if_neg (by rw [h]; simp), if_pos h8]
    rw [e]
    exact vread_short h h8
  have h8' := Nat.le_of_not_lt h8
  cases hb : sumOk6 f t s
  · have e : readF f t s = (Tk.z, 4) := by unfold readF; rw [if_neg (by rw [h]; simp), if_neg h8, if_pos hb]
    rw [e]
    exact vread_sum hs h h8' hb
  by_cases h1 : kindF s = 130
  · exact vread_one hs h h8' hb (.inl ⟨h1, rfl⟩)
  by_cases h2 : kindF s = 131
  · exact vread_one hs h h8' hb (.inr (.inl ⟨h2, rfl⟩))
  by_cases h3 : kindF s = 132
  · exact vread_one hs h h8' hb (.inr (.inr ⟨h3, rfl⟩))
  by_cases h4 : kindF s = 143
  · exact vread_recs hs h h8' hb h4
  exact vread_none hs h h8' hb h1 h2 h3 h4
end
noncomputable def rOneF (s : ByteArray) : Tk × Int :=
  if s.size < 24 then (⟨true, 1, (numAt s 0 1 : Int) - 129, 0, Ad.z, false, 0, 0, [], []⟩, 3)
  else if numAt s 0 1 = 130 ∧ 24 < s.size ∧ s.size < 28 then (⟨true, 1, 1, 0, Ad.z, false, 0, 0, [], []⟩, 2)
  else if (grp6 (ad16 s 8) || (numAt s 0 1 == 130 && zero6 (ad16 s 8))) = false then (⟨true, 1, (numAt s 0 1 : Int) - 129, 0, ad16 s 8, false, 0, 0, [], []⟩, 2)
  else if numAt s 0 1 ≠ 130 then (⟨true, 1, (numAt s 0 1 : Int) - 129, 0, ad16 s 8, false, 0, 0, [], []⟩, 0)
  else if s.size = 24 then (⟨true, 1, 1, (numAt s 4 2 : Int), ad16 s 8, false, 0, 0, [], []⟩, 0)
  else if zero6 (ad16 s 8) = true ∧ 0 < numAt s 26 2 then (⟨true, 2, 1, (valN 4096 (numAt s 4 2) : Int), ad16 s 8, decide (numAt s 24 1 / 8 % 2 = 1), ((numAt s 24 1 % 8 : Nat) : Int), (valN 16 (numAt s 25 1) : Int), [], []⟩, 2)
  else (⟨true, 2, 1, (valN 4096 (numAt s 4 2) : Int), ad16 s 8, decide (numAt s 24 1 / 8 % 2 = 1), ((numAt s 24 1 % 8 : Nat) : Int), (valN 16 (numAt s 25 1) : Int), (rSrcF s 28 (numAt s 26 2)).1, []⟩, (rSrcF s 28 (numAt s 26 2)).2)
theorem q8 (b : Nat) : decide (b / 8 % 2 = 1) = (((b : Int) / 8 % 2) == 1) := by
  rw [Bool.eq_iff_iff]
  simp
  omega
theorem m8 (b : Nat) : ((b % 8 : Nat) : Int) = (b : Int) % 8 := by omega
section
variable {w : World} {s : ByteArray}
end
noncomputable def rReadT (s : ByteArray) : Tk × Int :=
  if numAt s 0 1 = 130 ∨ numAt s 0 1 = 131 ∨ numAt s 0 1 = 132 then rOneF s
  else if numAt s 0 1 = 143 then (⟨true, 2, 2, 0, Ad.z, false, 0, 0, [], (rRecF s).1⟩, (rRecF s).2)
  else (Tk.z, 5)
noncomputable def rReadF (f t : Ad) (s : ByteArray) : Tk × Int :=
  if s.size < 8 then (Tk.z, 3) else if sumOk6 f t s = false then (Tk.z, 4) else if (rReadT s).2 = 0 then ((rReadT s).1, 0) else (Tk.z, (rReadT s).2)
section
variable {w : World} {s : ByteArray} {f t : Ad}
theorem rpsB_any {n : Nat} (hn : n < 9223372036854775808) : Gives Tryz.prog 62 #[.agg (fls [.many (adL f) 17]).toArray, .agg (fls [.many (adL t) 17]).toArray, .int .i64 58, .int .i64 (n : Int)] w (.string (psB f t n)) := by
  rw [← rg_segs, ← rg_segs]
  exact rpseudo_any (p := 58) (ad_cs f) (ad_cs t) (by decide +kernel) (by omega) (u64_small (by omega)) (by omega)
end
end Go.Proofs.YtdnehjhijmeihaaGreat.V
namespace Go.Proofs.YtdnehjhijmeihaaGreat.V
set_option linter.unusedVariables false
set_option linter.unusedSimpArgs false
theorem ne_false {b : Bool} (h : ¬ b = false) : b = true := by
  cases b
  · exact absurd rfl h
  · rfl
section
variable {s : ByteArray} {k n : Nat} {e : Int} {t : St}
theorem fits_ok (h : k + n ≤ s.size) : rdFits s k false n = true := by simp [rdFits, h]
theorem fits_no (h : s.size < k + n) : rdFits s k false n = false := by simp [rdFits]; omega
theorem stepS_ok (h : k + n ≤ s.size) : stepS s n ⟨k, false, e⟩ = ⟨k + n, false, e⟩ := by
  unfold stepS rdB rdK
  simp only [fits_ok h]
  simp [failS]
theorem stepS_no (h : s.size < k + n) : stepS s n ⟨k, false, 0⟩ = ⟨k, true, 3⟩ := by
  unfold stepS rdB rdK
  simp only [fits_no h]
  simp [failS]
theorem failS_bad {is : Bool} {c : Int} (h : t.e ≠ 0) : failS is c t = t := by
  unfold failS
  rw [if_neg (by simp [h])]
theorem stepS_bad (h : t.e ≠ 0) : (stepS s n t).e = t.e := by
  unfold stepS
  rw [failS_bad (by exact h)]
theorem numV_ok (h : k + n ≤ s.size) : numV s n ⟨k, false, e⟩ = numAt s k n := by
  unfold numV rdS numAt
  simp only [fits_ok h, if_true]
  rw [toList_extract, Nat.add_sub_cancel_left]
theorem addrS_ok (h : k + 16 ≤ s.size) : addrS s 16 ⟨k, false, e⟩ = ad16 s k := by
  unfold addrS ad16 rdS
  simp only [fits_ok h, if_true]
theorem srcAt_zero : srcAt s k 0 = [] := rfl
theorem srcAt_succ : srcAt s k (n + 1) = ad16 s k :: srcAt s (k + 16) n := by
  unfold srcAt
  rw [List.range_succ_eq_map, List.map_cons, List.map_map]
  have h : List.map ((fun i => ad16 s (k + 16 * i)) ∘ Nat.succ) (List.range n) = List.map (fun i => ad16 s (k + 16 + 16 * i)) (List.range n) := List.map_congr_left fun i _ => by
    rw [Function.comp_apply, show k + 16 * Nat.succ i = k + 16 + 16 * i by omega]
  rw [h, Nat.mul_zero, Nat.add_zero]
theorem srcL_bad {f : Nat} {X : List Ad} (h : t.e ≠ 0) : srcL s n f X t = (X, t) := srcL_end fun h' => h h'.2
theorem srcF_bad (h : t.e ≠ 0) : srcF s n t = ([], t) := by
  unfold srcF
  rw [failS_bad h, srcL_bad h]
theorem srcL_run : ∀ {m f : Nat} {X : List Ad} {k : Nat}, m ≤ f → X.length + m = n → k + 16 * m ≤ s.size → srcL s n f X ⟨k, false, 0⟩ = (X ++ srcAt s k m, ⟨k + 16 * m, false, 0⟩)
  | 0, f, X, k, _, hX, _ => by
    rw [srcL_end (fun h => by have := h.1; omega), srcAt_zero, List.append_nil]
    rfl
  | m + 1, 0, _, _, h, _, _ => by omega
  | m + 1, f + 1, X, k, hf, hX, hk => by
    rw [srcL_more ⟨by omega, rfl⟩, addrS_ok (by omega), stepS_ok (by omega), srcL_run (m := m) (by omega) (by simp; omega) (by omega), srcAt_succ]
    simp only [List.append_assoc, List.singleton_append, Prod.mk.injEq, St.mk.injEq, true_and, and_true]
    omega
theorem srcL_short : ∀ {m f : Nat} {X : List Ad} {k : Nat}, m ≤ f → X.length + m = n → k ≤ s.size → s.size < k + 16 * m → (srcL s n f X ⟨k, false, 0⟩).2.e = 3
  | 0, f, X, k, _, hX, _, h => by omega
  | m + 1, 0, _, _, h, _, _, _ => by omega
  | m + 1, f + 1, X, k, hf, hX, hk, h => by
    rw [srcL_more ⟨by omega, rfl⟩]
    by_cases h4 : k + 16 ≤ s.size
    · rw [stepS_ok h4]
      exact srcL_short (m := m) (by omega) (by simp; omega) h4 (by omega)
    · rw [stepS_no (by omega), srcL_bad (by simp)]
theorem srcF_is (hk : k ≤ s.size) : (srcF s n ⟨k, false, 0⟩).2.e = (rSrcF s k n).2 ∧ ((rSrcF s k n).2 = 0 → srcF s n ⟨k, false, 0⟩ = ((rSrcF s k n).1, ⟨k + 16 * n, false, 0⟩)) := by
  unfold srcF rSrcF
  by_cases h64 : 64 < n
  · have e : failS (decide (64 < n)) 6 (⟨k, false, 0⟩ : St) = ⟨k, false, 6⟩ := by simp [failS, h64]
    rw [e, srcL_bad (by simp), if_pos h64]
    exact ⟨rfl, fun h => by simp at h⟩
  · have e : failS (decide (64 < n)) 6 (⟨k, false, 0⟩ : St) = ⟨k, false, 0⟩ := by simp [failS, h64]
    rw [e, if_neg h64]
    by_cases hz : s.size < k + 16 * n
    · rw [if_pos hz]
      exact ⟨srcL_short (m := n) (by omega) (by simp) hk hz, fun h => by simp at h⟩
    · rw [if_neg hz, srcL_run (m := n) (by omega) (by simp) (by omega)]
      exact ⟨rfl, fun _ => by simp⟩
theorem recF_bad (h : (stepS s 16 (stepS s 2 (stepS s 1 (stepS s 1 t)))).e ≠ 0) : (recF s t).2.2.e = (stepS s 16 (stepS s 2 (stepS s 1 (stepS s 1 t)))).e := by
  unfold recF
  simp only
  rw [srcF_bad h, if_neg h]
theorem recF_short (hk : k ≤ s.size) (h : s.size < k + 20) : (recF s ⟨k, false, 0⟩).2.2.e = 3 := by
  have h3 : (stepS s 16 (stepS s 2 (stepS s 1 (stepS s 1 ⟨k, false, 0⟩)))).e = 3 := by
    by_cases h1 : k + 1 ≤ s.size
    · rw [stepS_ok h1]
      by_cases h2 : k + 2 ≤ s.size
      · rw [stepS_ok (by omega)]
        by_cases h4 : k + 4 ≤ s.size
        · rw [stepS_ok (by omega), stepS_no (by omega)]
        · rw [stepS_no (by omega), stepS_bad (by simp)]
      · rw [stepS_no (by omega), stepS_bad (by rw [stepS_bad (by simp)]; simp), stepS_bad (by simp)]
    · have e1 : (stepS s 1 ⟨k, false, 0⟩).e = 3 := by rw [stepS_no (by omega)]
      have e2 : (stepS s 1 (stepS s 1 ⟨k, false, 0⟩)).e = 3 := by rw [stepS_bad (by rw [e1]; simp), e1]
      have e3 : (stepS s 2 (stepS s 1 (stepS s 1 ⟨k, false, 0⟩))).e = 3 := by rw [stepS_bad (by rw [e2]; simp), e2]
      rw [stepS_bad (by rw [e3]; simp), e3]
  rw [recF_bad (by rw [h3]; simp), h3]
theorem recF_is (h : k + 20 ≤ s.size) : recF s ⟨k, false, 0⟩ = (⟨numAt s k 1, ad16 s (k + 4), (srcF s (numAt s (k + 2) 2) ⟨k + 20, false, 0⟩).1⟩, decide (1 ≤ numAt s k 1) && (decide (numAt s k 1 ≤ 6) && grp6 (ad16 s (k + 4))), if (srcF s (numAt s (k + 2) 2) ⟨k + 20, false, 0⟩).2.e = 0 then stepS s (numAt s (k + 1) 1 * 4) (srcF s (numAt s (k + 2) 2) ⟨k + 20, false, 0⟩).2 else (srcF s (numAt s (k + 2) 2) ⟨k + 20, false, 0⟩).2) := by
  have e1 : stepS s 1 ⟨k, false, 0⟩ = ⟨k + 1, false, 0⟩ := stepS_ok (by omega)
  have e2 : stepS s 1 ⟨k + 1, false, 0⟩ = ⟨k + 2, false, 0⟩ := stepS_ok (by omega)
  have e3 : stepS s 2 ⟨k + 2, false, 0⟩ = ⟨k + 4, false, 0⟩ := stepS_ok (by omega)
  have e4 : stepS s 16 ⟨k + 4, false, 0⟩ = ⟨k + 20, false, 0⟩ := stepS_ok (by omega)
  unfold recF
  simp only [e1, e2, e3, e4]
  rw [numV_ok (by omega), numV_ok (by omega), numV_ok (by omega), addrS_ok (by omega)]
theorem okAt_is : (decide (1 ≤ numAt s k 1) && (decide (numAt s k 1 ≤ 6) && grp6 (ad16 s (k + 4)))) = okAt s k := by
  unfold okAt
  rw [show decide (1 ≤ numAt s k 1) = decide (0 < numAt s k 1) from decide_eq_decide.2 (by omega), show decide (numAt s k 1 ≤ 6) = decide (numAt s k 1 < 7) from decide_eq_decide.2 (by omega)]
theorem repL_bad {f i : Nat} {X : List Rc} (h : t.e ≠ 0) : repL s n f i X t = (X, t) := repL_end fun h' => h h'.2
theorem repL_is : ∀ {f i k : Nat} {X : List Rc}, k ≤ s.size → (repL s n f i X ⟨k, false, 0⟩).2.e = (rRecL s n f i k X).2 ∧ ((rRecL s n f i k X).2 = 0 → (repL s n f i X ⟨k, false, 0⟩).1 = (rRecL s n f i k X).1)
  | 0, i, k, X, _ => ⟨rfl, fun _ => rfl⟩
  | f + 1, i, k, X, hk => by
    by_cases hi : i < n
    rotate_left
    · rw [repL_end (fun h => hi h.1), rRecL_end hi]
      exact ⟨rfl, fun _ => rfl⟩
    rw [repL_more ⟨hi, rfl⟩, rRecL, if_pos hi]
    by_cases h8 : s.size < k + 20
    · rw [if_pos h8]
      have h3 := recF_short hk h8
      rw [repL_bad (by rw [h3]; simp)]
      exact ⟨h3, fun h => by simp at h⟩
    rw [if_neg h8]
    have hr := recF_is (s := s) (k := k) (by omega)
    obtain ⟨q1, q2⟩ := srcF_is (s := s) (n := numAt s (k + 2) 2) (k := k + 20) (by omega)
    by_cases hc : (rSrcF s (k + 20) (numAt s (k + 2) 2)).2 = 0
    rotate_left
    · rw [if_pos hc]
      have he : (srcF s (numAt s (k + 2) 2) ⟨k + 20, false, 0⟩).2.e ≠ 0 := by rw [q1]; exact hc
      rw [if_neg he] at hr
      have h3 : (recF s ⟨k, false, 0⟩).2.2.e = (rSrcF s (k + 20) (numAt s (k + 2) 2)).2 := by rw [hr]; exact q1
      rw [repL_bad (by rw [h3]; exact hc)]
      exact ⟨h3, fun h => absurd h hc⟩
    rw [if_neg (show ¬ (rSrcF s (k + 20) (numAt s (k + 2) 2)).2 ≠ 0 from fun h => h hc)]
    have he : (srcF s (numAt s (k + 2) 2) ⟨k + 20, false, 0⟩).2.e = 0 := by rw [q1]; exact hc
    rw [if_pos he, q2 hc, okAt_is] at hr
    simp only at hr
    by_cases h2 : s.size < endAt s k
    · rw [if_pos h2]
      unfold endAt at h2
      rw [stepS_no (by omega)] at hr
      have h3 : (recF s ⟨k, false, 0⟩).2.2.e = 3 := by rw [hr]
      rw [repL_bad (by rw [h3]; simp)]
      exact ⟨h3, fun h => by simp at h⟩
    rw [if_neg h2]
    have h2' := h2
    unfold endAt at h2'
    rw [stepS_ok (by omega)] at hr
    rw [hr]
    simp only
    have e1 : k + 20 + 16 * numAt s (k + 2) 2 + numAt s (k + 1) 1 * 4 = endAt s k := by unfold endAt; omega
    have e2 : (⟨numAt s k 1, ad16 s (k + 4), (rSrcF s (k + 20) (numAt s (k + 2) 2)).1⟩ : Rc) = recAt s k := rfl
    rw [e1, e2]
    exact repL_is (f := f) (by omega)
theorem st2_is (h : 8 ≤ s.size) : st2 s = ⟨4, false, 0⟩ := by
  unfold st2 st0
  rw [stepS_ok (by omega), stepS_ok (by omega)]
theorem kindF_is (h : 8 ≤ s.size) : kindF s = numAt s 0 1 := numV_ok (by omega)
theorem repF_is (h : 8 ≤ s.size) : (repF s ⟨4, false, 0⟩).2.e = (rRecF s).2 ∧ ((rRecF s).2 = 0 → (repF s ⟨4, false, 0⟩).1 = (rRecF s).1) := by
  unfold repF rRecF
  rw [stepS_ok (by omega), stepS_ok (by omega), numV_ok (by omega)]
  by_cases h64 : 64 < numAt s 6 2
  · have e : failS (decide (64 < numAt s 6 2)) 6 (⟨4 + 2 + 2, false, 0⟩ : St) = ⟨8, false, 6⟩ := by simp [failS, h64]
    rw [e, if_pos h64, repL_bad (by simp)]
    exact ⟨rfl, fun h => by simp at h⟩
  · have e : failS (decide (64 < numAt s 6 2)) 6 (⟨4 + 2 + 2, false, 0⟩ : St) = ⟨8, false, 0⟩ := by simp [failS, h64]
    rw [e, if_neg h64]
    exact repL_is (by omega)
theorem oneF_bad {kd : Int} {z : Nat} {t : St} (h : (failS (decide (kd = 1) && (decide (24 < (z : Int)) && decide ((z : Int) < 28))) 2 (failS (decide ((z : Int) < 24)) 3 t)).e ≠ 0) : (oneF s t kd z).2.e = (failS (decide (kd = 1) && (decide (24 < (z : Int)) && decide ((z : Int) < 28))) 2 (failS (decide ((z : Int) < 24)) 3 t)).e := by
  unfold oneF
  simp only
  generalize failS (decide (kd = 1) && (decide (24 < (z : Int)) && decide ((z : Int) < 28))) 2 (failS (decide ((z : Int) < 24)) 3 t) = t2 at *
  have e1 : (stepS s 2 t2).e = t2.e := stepS_bad h
  have e2 : (stepS s 2 (stepS s 2 t2)).e = t2.e := by rw [stepS_bad (by rw [e1]; exact h), e1]
  have e3 : (stepS s 16 (stepS s 2 (stepS s 2 t2))).e = t2.e := by rw [stepS_bad (by rw [e2]; exact h), e2]
  generalize addrS s 16 (stepS s 2 (stepS s 2 t2)) = a
  generalize stepS s 16 (stepS s 2 (stepS s 2 t2)) = t5 at *
  have f0 : ∀ b, failS b 2 t5 = t5 := fun b => failS_bad (by rw [e3]; exact h)
  simp only [f0]
  split
  · split
    · exact e3
    · have e5 : (stepS s 1 t5).e = t2.e := by rw [stepS_bad (by rw [e3]; exact h), e3]
      have e6 : (stepS s 1 (stepS s 1 t5)).e = t2.e := by rw [stepS_bad (by rw [e5]; exact h), e5]
      have e7 : (stepS s 2 (stepS s 1 (stepS s 1 t5))).e = t2.e := by rw [stepS_bad (by rw [e6]; exact h), e6]
      have f1 : ∀ b, failS b 2 (stepS s 2 (stepS s 1 (stepS s 1 t5))) = stepS s 2 (stepS s 1 (stepS s 1 t5)) := fun b => failS_bad (by rw [e7]; exact h)
      simp only [f1]
      rw [srcF_bad (by rw [e7]; exact h)]
      exact e7
  · exact e3
theorem oneF_bad6 {z : Nat} {t : St} (hz : z ≠ 24) (h : (failS (!zero6 (addrS s 16 (stepS s 2 (stepS s 2 t))) && !grp6 (addrS s 16 (stepS s 2 (stepS s 2 t)))) 2 (stepS s 16 (stepS s 2 (stepS s 2 t)))).e ≠ 0) (h2 : failS (decide (24 < (z : Int)) && decide ((z : Int) < 28)) 2 (failS (decide ((z : Int) < 24)) 3 t) = t) : (oneF s t 1 z).2.e = (failS (!zero6 (addrS s 16 (stepS s 2 (stepS s 2 t))) && !grp6 (addrS s 16 (stepS s 2 (stepS s 2 t)))) 2 (stepS s 16 (stepS s 2 (stepS s 2 t)))).e := by
  simp only [oneF, if_true, decide_true, Bool.true_and, h2]
  rw [if_neg hz]
  generalize failS (!zero6 (addrS s 16 (stepS s 2 (stepS s 2 t))) && !grp6 (addrS s 16 (stepS s 2 (stepS s 2 t)))) 2 (stepS s 16 (stepS s 2 (stepS s 2 t))) = t2 at *
  have e1 : (stepS s 1 t2).e = t2.e := stepS_bad h
  have e2 : (stepS s 1 (stepS s 1 t2)).e = t2.e := by rw [stepS_bad (by rw [e1]; exact h), e1]
  have e3 : (stepS s 2 (stepS s 1 (stepS s 1 t2))).e = t2.e := by rw [stepS_bad (by rw [e2]; exact h), e2]
  have f1 : ∀ b, failS b 2 (stepS s 2 (stepS s 1 (stepS s 1 t2))) = stepS s 2 (stepS s 1 (stepS s 1 t2)) := fun b => failS_bad (by rw [e3]; exact h)
  simp only [f1]
  rw [srcF_bad (by rw [e3]; exact h)]
  exact e3
theorem oneF_is {kd : Int} (h8 : 8 ≤ s.size) (hk : (numAt s 0 1 = 130 ∧ kd = 1) ∨ (numAt s 0 1 = 131 ∧ kd = 2) ∨ (numAt s 0 1 = 132 ∧ kd = 3)) : (oneF s ⟨4, false, 0⟩ kd s.size).2.e = (rOneF s).2 ∧ ((rOneF s).2 = 0 → (oneF s ⟨4, false, 0⟩ kd s.size).1 = (rOneF s).1) := by
  have hkd : (numAt s 0 1 : Int) - 129 = kd := by omega
  have h131 : numAt s 0 1 = 130 ↔ kd = 1 := by omega
  by_cases h24 : s.size < 24
  · have e2 : (rOneF s).2 = 3 := by unfold rOneF; rw [if_pos h24]
    have e3 : failS (decide (kd = 1) && (decide (24 < (s.size : Int)) && decide ((s.size : Int) < 28))) 2 (failS (decide ((s.size : Int) < 24)) 3 ⟨4, false, 0⟩) = ⟨4, false, 3⟩ := by
      rw [decide_eq_true (show (s.size : Int) < 24 by omega)]
      exact failS_bad (by simp [failS])
    rw [e2, oneF_bad (by rw [e3]; simp), e3]
    exact ⟨rfl, fun h => by simp at h⟩
  have e1 : failS (decide ((s.size : Int) < 24)) 3 (⟨4, false, 0⟩ : St) = ⟨4, false, 0⟩ := by rw [decide_eq_false (show ¬ (s.size : Int) < 24 by omega)]; rfl
  by_cases h28 : numAt s 0 1 = 130 ∧ 24 < s.size ∧ s.size < 28
  · have e2 : (rOneF s).2 = 2 := by unfold rOneF; rw [if_neg h24, if_pos h28]
    have e3 : failS (decide (kd = 1) && (decide (24 < (s.size : Int)) && decide ((s.size : Int) < 28))) 2 (failS (decide ((s.size : Int) < 24)) 3 ⟨4, false, 0⟩) = ⟨4, false, 2⟩ := by
      rw [e1, decide_eq_true (h131.1 h28.1), decide_eq_true (show 24 < (s.size : Int) by omega), decide_eq_true (show (s.size : Int) < 28 by omega)]
      rfl
    rw [e2, oneF_bad (by rw [e3]; simp), e3]
    exact ⟨rfl, fun h => by simp at h⟩
  have e2 : failS (decide (kd = 1) && (decide (24 < (s.size : Int)) && decide ((s.size : Int) < 28))) 2 (failS (decide ((s.size : Int) < 24)) 3 ⟨4, false, 0⟩) = ⟨4, false, 0⟩ := by
    have : (decide (kd = 1) && (decide (24 < (s.size : Int)) && decide ((s.size : Int) < 28))) = false := by
      simp only [Bool.and_eq_false_iff, decide_eq_false_iff_not]
      omega
    rw [e1, this]; rfl
  have s1 : stepS s 2 (⟨4, false, 0⟩ : St) = ⟨6, false, 0⟩ := stepS_ok (by omega)
  have s2 : stepS s 2 (⟨6, false, 0⟩ : St) = ⟨8, false, 0⟩ := stepS_ok (by omega)
  have s3 : stepS s 16 (⟨8, false, 0⟩ : St) = ⟨24, false, 0⟩ := stepS_ok (by omega)
  have n1 : numV s 2 (⟨4, false, 0⟩ : St) = numAt s 4 2 := numV_ok (by omega)
  have a1 : addrS s 16 (⟨8, false, 0⟩ : St) = ad16 s 8 := addrS_ok (by omega)
  by_cases hk1 : kd = 1
  rotate_left
  · have hkn := mt h131.1 hk1
    have f1 : oneF s ⟨4, false, 0⟩ kd s.size = (⟨true, 1, kd, 0, ad16 s 8, false, 0, 0, [], []⟩, failS (!grp6 (ad16 s 8)) 2 ⟨24, false, 0⟩) := by
      unfold oneF
      simp only [e2, s1, s2, s3, a1]
      rw [if_neg hk1]
    rw [f1]
    unfold rOneF
    rw [if_neg h24, if_neg h28, hkd]
    have e5 : (numAt s 0 1 == 130) = false := by simpa using hkn
    rw [e5, Bool.false_and, Bool.or_false]
    cases hg : grp6 (ad16 s 8)
    · rw [if_pos rfl]
      exact ⟨rfl, fun h => by simp at h⟩
    · rw [if_neg (by simp), if_pos hkn]
      exact ⟨rfl, fun _ => rfl⟩
  have hkn := h131.2 hk1
  subst hk1
  rw [show decide ((1 : Int) = 1) = true from rfl, Bool.true_and] at e2
  have hb : (numAt s 0 1 == 130) = true := by simpa using hkn
  by_cases hq : (grp6 (ad16 s 8) || zero6 (ad16 s 8)) = false
  · have f1 : (rOneF s).2 = 2 := by unfold rOneF; rw [if_neg h24, if_neg h28, hb, Bool.true_and, if_pos hq]
    have hq2 : (!zero6 (ad16 s 8) && !grp6 (ad16 s 8)) = true := by
      rw [Bool.or_eq_false_iff] at hq
      rw [hq.1, hq.2]; rfl
    rw [f1]
    refine ⟨?_, fun h => by simp at h⟩
    by_cases hz : s.size = 24
    · simp only [oneF, if_true, decide_true, Bool.true_and, e2, s1, s2, s3, a1]
      rw [if_pos hz, hq2]
      rfl
    · rw [oneF_bad6 hz (by rw [s1, s2, s3, a1, hq2]; simp [failS]) e2, s1, s2, s3, a1, hq2]
      rfl
  have hq2 : (!zero6 (ad16 s 8) && !grp6 (ad16 s 8)) = false := by
    have := ne_false hq
    revert this
    cases grp6 (ad16 s 8) <;> cases zero6 (ad16 s 8) <;> simp
  have e6 : failS false 2 (⟨24, false, 0⟩ : St) = ⟨24, false, 0⟩ := rfl
  unfold rOneF
  rw [if_neg h24, if_neg h28, hb, Bool.true_and, if_neg hq, if_neg (by omega)]
  by_cases hz : s.size = 24
  · rw [if_pos hz]
    simp only [oneF, if_true, decide_true, Bool.true_and, e2, s1, s2, s3, a1, n1, hq2, e6]
    rw [if_pos hz]
    exact ⟨rfl, fun _ => rfl⟩
  rw [if_neg hz]
  have f1 : stepS s 1 (⟨24, false, 0⟩ : St) = ⟨25, false, 0⟩ := stepS_ok (by omega)
  have f2 : stepS s 1 (⟨25, false, 0⟩ : St) = ⟨26, false, 0⟩ := stepS_ok (by omega)
  have f3 : stepS s 2 (⟨26, false, 0⟩ : St) = ⟨28, false, 0⟩ := stepS_ok (by omega)
  have m1 : numV s 1 (⟨24, false, 0⟩ : St) = numAt s 24 1 := numV_ok (by omega)
  have m2 : numV s 1 (⟨25, false, 0⟩ : St) = numAt s 25 1 := numV_ok (by omega)
  have m3 : numV s 2 (⟨26, false, 0⟩ : St) = numAt s 26 2 := numV_ok (by omega)
  simp only [oneF, if_true, decide_true, Bool.true_and, e2, s1, s2, s3, a1, n1, hq2, e6, f1, f2, f3, m1, m2, m3]
  rw [if_neg hz]
  by_cases hn : zero6 (ad16 s 8) = true ∧ 0 < numAt s 26 2
  · rw [if_pos hn]
    have e4 : failS (zero6 (ad16 s 8) && decide (0 < numAt s 26 2)) 2 (⟨28, false, 0⟩ : St) = ⟨28, false, 2⟩ := by rw [hn.1, decide_eq_true hn.2]; rfl
    rw [e4, srcF_bad (by simp)]
    exact ⟨rfl, fun h => by simp at h⟩
  · rw [if_neg hn]
    have e4 : failS (zero6 (ad16 s 8) && decide (0 < numAt s 26 2)) 2 (⟨28, false, 0⟩ : St) = ⟨28, false, 0⟩ := by
      have : (zero6 (ad16 s 8) && decide (0 < numAt s 26 2)) = false := by
        rw [Bool.and_eq_false_iff]
        by_cases h0 : zero6 (ad16 s 8) = true
        · exact .inr (decide_eq_false fun h => hn ⟨h0, h⟩)
        · exact .inl (by simpa using h0)
      rw [this]; rfl
    rw [e4]
    obtain ⟨q1, q2⟩ := srcF_is (s := s) (n := numAt s 26 2) (k := 28) (by omega)
    exact ⟨q1, fun h => by rw [q2 h]⟩
theorem readT_is (h : 8 ≤ s.size) : (readT s).2.e = (rReadT s).2 ∧ ((rReadT s).2 = 0 → (readT s).1 = (rReadT s).1) := by
  unfold readT rReadT
  rw [kindF_is h, st2_is h]
  by_cases h1 : numAt s 0 1 = 130
  · rw [if_pos h1, if_pos (.inl h1)]
    exact oneF_is h (.inl ⟨h1, rfl⟩)
  rw [if_neg h1]
  by_cases h2 : numAt s 0 1 = 131
  · rw [if_pos h2, if_pos (.inr (.inl h2))]
    exact oneF_is h (.inr (.inl ⟨h2, rfl⟩))
  rw [if_neg h2]
  by_cases h3 : numAt s 0 1 = 132
  · rw [if_pos h3, if_pos (.inr (.inr h3))]
    exact oneF_is h (.inr (.inr ⟨h3, rfl⟩))
  rw [if_neg h3, if_neg (show ¬(numAt s 0 1 = 130 ∨ numAt s 0 1 = 131 ∨ numAt s 0 1 = 132) by omega)]
  by_cases h4 : numAt s 0 1 = 143
  · rw [if_pos h4, if_pos h4]
    obtain ⟨q1, q2⟩ := repF_is h
    exact ⟨q1, fun h => by rw [show (repF s ⟨4, false, 0⟩).1 = (rRecF s).1 from q2 h]⟩
  · rw [if_neg h4, if_neg h4]
    exact ⟨rfl, fun _ => rfl⟩
theorem readF_is {f t : Ad} (hv : (f.v && t.v) = true) : readF f t s = rReadF f t s := by
  unfold readF rReadF
  rw [if_neg (by rw [hv]; simp)]
  by_cases h8 : s.size < 8
  · rw [if_pos h8, if_pos h8]
  rw [if_neg h8, if_neg h8]
  obtain ⟨q1, q2⟩ := readT_is (s := s) (by omega)
  rw [q1]
  by_cases h0 : (rReadT s).2 = 0
  · rw [if_pos h0, if_pos h0, q2 h0]
  · rw [if_neg h0, if_neg h0]
theorem ad16_v (h : k + 16 ≤ s.size) : (ad16 s k).v = true := by
  have hx : (s.extract k (k + 16)).size = 16 := by rw [extract_size h (by omega)]; omega
  unfold ad16 adR
  rw [dif_neg (by omega), dif_pos hx]
theorem srcAt_good (h : k + 16 * n ≤ s.size) (hn : n ≤ 64) : srcs6 (srcAt s k n) = true := by
  unfold srcs6
  rw [srcAt_len, decide_eq_true (show n < 65 by omega), Bool.and_true, List.all_eq_true]
  intro a ha
  obtain ⟨i, hi, rfl⟩ := List.mem_map.1 ha
  have := List.mem_range.1 hi
  exact ad16_v (by omega)
theorem rSrcF_good (h : (rSrcF s k n).2 = 0) : srcs6 (rSrcF s k n).1 = true ∧ (rSrcF s k n).1.length = n := by
  obtain ⟨h1, h2, h3⟩ := rSrcF_ok h
  rw [h3]
  exact ⟨srcAt_good h2 h1, srcAt_len _ _ _⟩
theorem rRecL_good : ∀ {f i k : Nat} {X : List Rc}, X.all rcOk6 = true → 8 + recN 20 16 X ≤ k → X.length ≤ i → i ≤ n → k ≤ s.size → n ≤ 64 → (rRecL s n f i k X).2 = 0 → (rRecL s n f i k X).1.all rcOk6 = true ∧ 8 + recN 20 16 (rRecL s n f i k X).1 ≤ s.size ∧ (rRecL s n f i k X).1.length ≤ n
  | 0, i, k, X, h1, h2, h3, h4, h5, h6, _ => ⟨h1, show 8 + recN 20 16 X ≤ s.size by omega, show X.length ≤ n by omega⟩
  | f + 1, i, k, X, h1, h2, h3, h4, h5, h6, h => by
    by_cases hi : i < n
    rotate_left
    · rw [rRecL_end hi]
      exact ⟨h1, show 8 + recN 20 16 X ≤ s.size by omega, show X.length ≤ n by omega⟩
    rw [rRecL, if_pos hi] at h ⊢
    by_cases h8 : s.size < k + 20
    · rw [if_pos h8] at h; simp at h
    rw [if_neg h8] at h ⊢
    by_cases hc : (rSrcF s (k + 20) (numAt s (k + 2) 2)).2 = 0
    rotate_left
    · rw [if_pos hc] at h; exact absurd h hc
    rw [if_neg (show ¬ (rSrcF s (k + 20) (numAt s (k + 2) 2)).2 ≠ 0 from fun h => h hc)] at h ⊢
    by_cases he : s.size < endAt s k
    · rw [if_pos he] at h; simp at h
    rw [if_neg he] at h ⊢
    have he' := he
    unfold endAt at he'
    obtain ⟨g1, g2⟩ := rSrcF_good hc
    by_cases ho : okAt s k = true
    · rw [if_pos ho] at h ⊢
      refine rRecL_good (f := f) ?_ ?_ (by simp; omega) hi (by omega) h6 h
      · rw [List.all_append, h1, Bool.true_and, List.all_cons, List.all_nil, Bool.and_true]
        unfold okAt at ho
        simp only [Bool.and_eq_true, decide_eq_true_eq] at ho
        unfold rcOk6 recAt
        simp only
        rw [decide_eq_true (show (1 : Int) ≤ (numAt s k 1 : Int) by omega), decide_eq_true (show (numAt s k 1 : Int) ≤ 6 by omega), ho.2.2, g1]
        rfl
      · rw [recN_app]
        have : recN 20 16 [recAt s k] = 20 + 16 * numAt s (k + 2) 2 := by simp [recN, recAt, g2]
        rw [this]
        unfold endAt
        omega
    · rw [if_neg ho] at h ⊢
      exact rRecL_good (f := f) h1 (by unfold endAt; omega) (by omega) hi (by omega) h6 h
theorem ex8_val {c : Nat} (hc : c < 256) : (valN 16 (cod8 (valN 16 c : Int)) : Int) = (valN 16 c : Int) := by
  have h1 : IsCode 16 ((valN 16 c : Int)).toNat c := by rw [Int.toNat_natCast]; exact IsCode.self (by omega) (by omega)
  rw [IsCode.unique (by omega) (cod8_is (valN 16 c : Int)) h1]
theorem ex16_val {c : Nat} (hc : c < 65536) : (valN 4096 (cod16 (valN 4096 c : Int)) : Int) = (valN 4096 c : Int) := by
  have h1 : IsCode 4096 ((valN 4096 c : Int)).toNat c := by rw [Int.toNat_natCast]; exact IsCode.self (by omega) (by omega)
  rw [IsCode.unique (by omega) (cod16_is (valN 4096 c : Int)) h1]
end
section
variable {s : ByteArray}
theorem rOneF_good (h8 : 8 ≤ s.size) (hk : numAt s 0 1 = 130 ∨ numAt s 0 1 = 131 ∨ numAt s 0 1 = 132) (h : (rOneF s).2 = 0) : good6 (rOneF s).1 = true := by
  have hr : numAt s 4 2 < 65536 := numAt_lt s 4 2
  have hv : numAt s 25 1 < 256 := numAt_lt s 25 1
  unfold rOneF at h ⊢
  by_cases h24 : s.size < 24
  · rw [if_pos h24] at h; simp at h
  rw [if_neg h24] at h ⊢
  by_cases h28 : numAt s 0 1 = 130 ∧ 24 < s.size ∧ s.size < 28
  · rw [if_pos h28] at h; simp at h
  rw [if_neg h28] at h ⊢
  by_cases hq : (grp6 (ad16 s 8) || (numAt s 0 1 == 130 && zero6 (ad16 s 8))) = false
  · rw [if_pos hq] at h; simp at h
  rw [if_neg hq] at h ⊢
  have hq := ne_false hq
  by_cases hk1 : numAt s 0 1 ≠ 130
  · rw [if_pos hk1] at h ⊢
    have e5 : (numAt s 0 1 == 130) = false := by simpa using hk1
    rw [e5, Bool.false_and, Bool.or_false] at hq
    rcases hk with hk | hk | hk
    · exact absurd hk hk1
    all_goals
      rw [hk]
      unfold good6
      simp [hq]
  rw [if_neg hk1] at h ⊢
  have hb : (numAt s 0 1 == 130) = true := by simpa using hk1
  rw [hb, Bool.true_and] at hq
  have hq2 : (!zero6 (ad16 s 8) && !grp6 (ad16 s 8)) = false := by
    revert hq
    cases grp6 (ad16 s 8) <;> cases zero6 (ad16 s 8) <;> simp
  by_cases hz : s.size = 24
  · rw [if_pos hz] at h ⊢
    unfold good6
    simp only [hq2]
    simp
    omega
  rw [if_neg hz] at h ⊢
  by_cases hn : zero6 (ad16 s 8) = true ∧ 0 < numAt s 26 2
  · rw [if_pos hn] at h; simp at h
  rw [if_neg hn] at h ⊢
  simp only at h ⊢
  obtain ⟨g1, g2⟩ := rSrcF_good h
  have hl : (!zero6 (ad16 s 8) || (rSrcF s 28 (numAt s 26 2)).1.length == 0) = true := by
    rw [g2]
    cases hx : zero6 (ad16 s 8)
    · rfl
    · have : numAt s 26 2 = 0 := by
        by_cases h0 : numAt s 26 2 = 0
        · exact h0
        · exact absurd ⟨hx, by omega⟩ hn
      rw [this]; rfl
  unfold good6
  simp only [hq2, hl, g1, ex8_val hv, ex16_val hr]
  have := Nat.mod_lt (numAt s 24 1) (show 0 < 8 by omega)
  simp
  omega
theorem rReadT_good (h8 : 8 ≤ s.size) (hs : s.size ≤ 1400) (h : (rReadT s).2 = 0) : good6 (rReadT s).1 = true := by
  unfold rReadT at h ⊢
  by_cases h1 : numAt s 0 1 = 130 ∨ numAt s 0 1 = 131 ∨ numAt s 0 1 = 132
  · rw [if_pos h1] at h ⊢
    exact rOneF_good h8 h1 h
  rw [if_neg h1] at h ⊢
  by_cases h34 : numAt s 0 1 = 143
  · rw [if_pos h34] at h ⊢
    simp only at h ⊢
    unfold rRecF at h ⊢
    by_cases h64 : 64 < numAt s 6 2
    · rw [if_pos h64] at h; simp at h
    rw [if_neg h64] at h ⊢
    obtain ⟨g1, g2, g3⟩ := rRecL_good (s := s) (n := numAt s 6 2) (f := 65) (i := 0) (k := 8) (X := []) rfl (by simp [recN]) (by simp) (by omega) (by omega) (by omega) h
    unfold good6
    simp only [g1]
    simp [Ad.z, zeroA]
    omega
  · rw [if_neg h34] at h; simp at h
theorem rReadF_good {f t : Ad} (hs : s.size ≤ 1400) (h : (rReadF f t s).2 = 0) : good6 (rReadF f t s).1 = true := by
  unfold rReadF at h ⊢
  by_cases h8 : s.size < 8
  · rw [if_pos h8] at h; simp at h
  rw [if_neg h8] at h ⊢
  by_cases hb : sumOk6 f t s = false
  · rw [if_pos hb] at h; simp at h
  rw [if_neg hb] at h ⊢
  by_cases h0 : (rReadT s).2 = 0
  · rw [if_pos h0] at h ⊢
    exact rReadT_good (by omega) hs h0
  · rw [if_neg h0] at h; exact absurd h h0
end
def srcB (L : List Ad) : List UInt8 := L.flatMap fun a => bytesA a.v a.b
section
variable {s : ByteArray} {pre post : List UInt8} {k n v : Nat} {a : Ad}
theorem numAt_mid (hs : s.data.toList = pre ++ (putL v n ++ post)) (hk : pre.length = k) (hv : v < 256 ^ n) : numAt s k n = v := by
  subst hk
  unfold numAt
  rw [hs, List.drop_left, List.take_append_of_le_length (by rw [putL_length]; omega), List.take_of_length_le (by rw [putL_length]; omega), numL_putL, Nat.mod_eq_of_lt hv]
theorem bytesA_take {v : Bool} {l : List UInt8} (h : l.length = 16) : bytesA v l = l.take (if v then 16 else 4) := by
  unfold bytesA
  cases v
  · rfl
  · rw [if_pos rfl, if_pos rfl, List.take_of_length_le (by omega)]
theorem v6_len (h : a.v = true) : (bytesA a.v a.b).length = 16 := by
  rw [h, bytesA_take a.h, List.length_take, a.h]
  rfl
theorem adOf_back {l : List UInt8} (hl : l.length = 16) {x : ByteArray} (hx : x.data.toList = bytesA true l) : adOf x = l := by
  have hsz := size_toList x
  unfold adOf
  rw [hx] at hsz ⊢
  rw [bytesA_take hl] at hsz ⊢
  simp only [if_true] at hsz ⊢
  rw [List.take_of_length_le (by omega)] at hsz ⊢
  rw [← hsz, hl]
  simp
theorem ad16_mid (hs : s.data.toList = pre ++ (bytesA a.v a.b ++ post)) (hk : pre.length = k) (ha : a.v = true) : ad16 s k = a := by
  have hl := v6_len ha
  subst hk
  have hx : (s.extract pre.length (pre.length + 16)).data.toList = bytesA a.v a.b := by
    rw [toList_extract, hs, List.drop_left, Nat.add_sub_cancel_left, List.take_append_of_le_length (by omega), List.take_of_length_le (by omega)]
  have hz : (s.extract pre.length (pre.length + 16)).size = 16 := by rw [← size_toList, hx, hl]
  unfold ad16 adR
  rw [dif_neg (by omega), dif_pos hz]
  refine Ad.ext2 ha.symm ?_
  rw [ha] at hx
  exact adOf_back a.h hx
theorem srcAt_mid : ∀ {L : List Ad} {pre : List UInt8} {k : Nat}, L.all (·.v) = true → s.data.toList = pre ++ (srcB L ++ post) → pre.length = k → srcAt s k L.length = L
  | [], _, _, _, _, _ => rfl
  | a :: L, pre, k, h, hs, hk => by
    simp only [List.all_cons, Bool.and_eq_true] at h
    have hs1 : s.data.toList = pre ++ (bytesA a.v a.b ++ (srcB L ++ post)) := by rw [hs]; simp [srcB]
    have hs2 : s.data.toList = (pre ++ bytesA a.v a.b) ++ (srcB L ++ post) := by rw [hs1, List.append_assoc]
    rw [List.length_cons, srcAt_succ, ad16_mid hs1 hk h.1, srcAt_mid (pre := pre ++ bytesA a.v a.b) h.2 hs2 (by rw [List.length_append, v6_len h.1, hk])]
theorem srcB_len : ∀ {L : List Ad}, L.all (·.v) = true → (srcB L).length = 16 * L.length
  | [], _ => rfl
  | a :: L, h => by
    simp only [List.all_cons, Bool.and_eq_true] at h
    have := srcB_len h.2
    have h1 := v6_len h.1
    simp only [srcB, List.flatMap_cons, List.length_append, List.length_cons] at *
    omega
theorem srcs6_all {L : List Ad} (h : srcs6 L = true) : L.all (·.v) = true ∧ L.length ≤ 64 := by
  unfold srcs6 at h
  rw [Bool.and_eq_true] at h
  exact ⟨h.1, by have := of_decide_eq_true h.2; omega⟩
theorem rSrcF_mid {L : List Ad} (h : srcs6 L = true) (hs : s.data.toList = pre ++ (srcB L ++ post)) (hk : pre.length = k) : rSrcF s k L.length = (L, 0) := by
  obtain ⟨h1, h2⟩ := srcs6_all h
  have hz : s.size = k + 16 * L.length + post.length := by rw [← size_toList, hs, List.length_append, List.length_append, srcB_len h1, hk]; omega
  unfold rSrcF
  rw [if_neg (by omega), if_neg (by omega), srcAt_mid h1 hs hk]
def recB (r : Rc) : List UInt8 := putL r.kind.toNat 1 ++ (putL 0 1 ++ (putL r.src.length 2 ++ (bytesA r.grp.v r.grp.b ++ srcB r.src)))
def recsB (R : List Rc) : List UInt8 := R.flatMap recB
theorem grp6_v (h : grp6 a = true) : a.v = true := by
  unfold grp6 at h
  rw [Bool.and_eq_true] at h
  exact h.1
theorem rcOk6_all {r : Rc} (h : rcOk6 r = true) : 1 ≤ r.kind ∧ r.kind ≤ 6 ∧ grp6 r.grp = true ∧ srcs6 r.src = true := by
  unfold rcOk6 at h
  simp only [Bool.and_eq_true, decide_eq_true_eq] at h
  exact ⟨h.1.1.1, h.1.1.2, h.1.2, h.2⟩
theorem recB_len {r : Rc} (h : rcOk6 r = true) : (recB r).length = 20 + 16 * r.src.length := by
  obtain ⟨_, _, h3, h4⟩ := rcOk6_all h
  unfold recB
  simp only [List.length_append, putL_length]
  rw [v6_len (grp6_v h3), srcB_len (srcs6_all h4).1]
  omega
theorem recsB_len : ∀ {R : List Rc}, R.all rcOk6 = true → (recsB R).length = recN 20 16 R
  | [], _ => rfl
  | r :: R, h => by
    simp only [List.all_cons, Bool.and_eq_true] at h
    have := recsB_len h.2
    have h1 := recB_len h.1
    simp only [recsB, List.flatMap_cons, List.length_append, recN] at *
    omega
theorem rRecL_mid {n : Nat} : ∀ {R : List Rc} {pre : List UInt8} {k f i : Nat} {X : List Rc}, R.all rcOk6 = true → s.data.toList = pre ++ recsB R → pre.length = k → R.length + i = n → R.length < f → rRecL s n f i k X = (X ++ R, 0)
  | [], pre, k, f, i, X, _, _, _, hi, _ => by rw [rRecL_end (by simp at hi; omega), List.append_nil]
  | r :: R, pre, k, 0, i, X, _, _, _, _, hf => by omega
  | r :: R, pre, k, f + 1, i, X, h, hs, hk, hi, hf => by
    simp only [List.all_cons, Bool.and_eq_true] at h
    obtain ⟨h1, h2, h3, h4⟩ := rcOk6_all h.1
    obtain ⟨g1, g2⟩ := srcs6_all h4
    have hl := recB_len h.1
    have hlr := recsB_len h.2
    have s0 : s.data.toList = pre ++ (recB r ++ recsB R) := by rw [hs]; rfl
    have s1 : s.data.toList = pre ++ (putL r.kind.toNat 1 ++ (putL 0 1 ++ (putL r.src.length 2 ++ (bytesA r.grp.v r.grp.b ++ (srcB r.src ++ recsB R))))) := by rw [s0]; unfold recB; simp only [List.append_assoc]
    have s2 : s.data.toList = (pre ++ putL r.kind.toNat 1) ++ (putL 0 1 ++ (putL r.src.length 2 ++ (bytesA r.grp.v r.grp.b ++ (srcB r.src ++ recsB R)))) := by rw [s1]; simp only [List.append_assoc]
    have s3 : s.data.toList = (pre ++ putL r.kind.toNat 1 ++ putL 0 1) ++ (putL r.src.length 2 ++ (bytesA r.grp.v r.grp.b ++ (srcB r.src ++ recsB R))) := by rw [s1]; simp only [List.append_assoc]
    have s4 : s.data.toList = (pre ++ putL r.kind.toNat 1 ++ putL 0 1 ++ putL r.src.length 2) ++ (bytesA r.grp.v r.grp.b ++ (srcB r.src ++ recsB R)) := by rw [s1]; simp only [List.append_assoc]
    have s5 : s.data.toList = (pre ++ putL r.kind.toNat 1 ++ putL 0 1 ++ putL r.src.length 2 ++ bytesA r.grp.v r.grp.b) ++ (srcB r.src ++ recsB R) := by rw [s1]; simp only [List.append_assoc]
    have s6 : s.data.toList = (pre ++ recB r) ++ recsB R := by rw [s0, List.append_assoc]
    have n1 : numAt s k 1 = r.kind.toNat := numAt_mid s1 hk (by omega)
    have n2 : numAt s (k + 1) 1 = 0 := numAt_mid s2 (by simp only [List.length_append, putL_length]; omega) (by omega)
    have n3 : numAt s (k + 2) 2 = r.src.length := numAt_mid s3 (by simp only [List.length_append, putL_length]; omega) (by omega)
    have n4 : ad16 s (k + 4) = r.grp := ad16_mid s4 (by simp only [List.length_append, putL_length]; omega) (grp6_v h3)
    have n5 : rSrcF s (k + 20) r.src.length = (r.src, 0) := rSrcF_mid h4 s5 (by simp only [List.length_append, putL_length, v6_len (grp6_v h3)]; omega)
    have hz : s.size = k + (20 + 16 * r.src.length) + (recsB R).length := by rw [← size_toList, s0, List.length_append, List.length_append, hl, hk]; omega
    have e1 : endAt s k = k + (20 + 16 * r.src.length) := by unfold endAt; rw [n2, n3]; omega
    have e2 : okAt s k = true := by
      unfold okAt
      rw [n1, n4, h3, decide_eq_true (show 0 < r.kind.toNat by omega), decide_eq_true (show r.kind.toNat < 7 by omega)]
      rfl
    have e3 : recAt s k = r := by
      unfold recAt
      rw [n1, n3, n4, n5]
      obtain ⟨kd, g, l⟩ := r
      simp only at h1 ⊢
      rw [Int.toNat_of_nonneg (by omega)]
    simp only [List.length_cons] at hi hf
    rw [rRecL, if_pos (by omega), if_neg (by omega), n3, n5, if_neg (by simp), if_neg (by rw [e1]; omega), e2, if_pos rfl, e3, e1, rRecL_mid (R := R) (pre := pre ++ recB r) h.2 s6 (by rw [List.length_append, hl, hk]) (by omega) (by omega), List.append_assoc]
    rfl
end
noncomputable def flagN (T : Tk) : Nat := T.rob.toNat + (if T.quiet then 8 else 0)
noncomputable def respN (T : Tk) : Nat := if T.kind = 1 ∧ T.ver = 2 then cod16 T.resp else T.resp.toNat
noncomputable def restL (T : Tk) : List UInt8 :=
  if T.kind = 2 ∧ T.ver = 2 then putL 0 2 ++ (putL T.recs.length 2 ++ recsB T.recs)
  else if T.kind = 1 ∧ T.ver = 2 then putL (respN T) 2 ++ (putL 0 2 ++ (bytesA T.grp.v T.grp.b ++ (putL (flagN T) 1 ++ (putL (cod8 T.every) 1 ++ (putL T.src.length 2 ++ srcB T.src)))))
  else putL (respN T) 2 ++ (putL 0 2 ++ bytesA T.grp.v T.grp.b)
def kindN (T : Tk) : Nat := if T.kind = 3 then 132 else if T.kind = 2 then (if T.ver = 1 then 131 else 143) else 130
def headL (T : Tk) : List UInt8 := putL (kindN T) 1 ++ putL 0 1
noncomputable def psL (f t : Ad) (T : Tk) : List UInt8 := (psB f t (4 + (restL T).length)).data.toList
noncomputable def sumN (f t : Ad) (T : Tk) : Nat := 65535 - foldN (wsum (psL f t T ++ (headL T ++ restL T)))
noncomputable def writeT (f t : Ad) (T : Tk) : ByteArray := str (headL T ++ (putL (sumN f t T) 2 ++ restL T))
theorem fold_check (n : Nat) : foldN (n + (65535 - foldN n)) = 65535 := by
  have h1 := foldN_le n
  have h := foldN_add n (65535 - foldN n)
  rw [← h, foldN_small (by omega)]
  omega
theorem good6_cases {T : Tk} (h : good6 T = true) :
    (∃ r g, T = ⟨true, 1, 1, r, g, false, 0, 0, [], []⟩ ∧ 0 ≤ r ∧ r < 65536 ∧ (zero6 g = true ∨ grp6 g = true)) ∨
    (∃ g k, T = ⟨true, 1, k, 0, g, false, 0, 0, [], []⟩ ∧ grp6 g = true ∧ (k = 2 ∨ k = 3)) ∨
    (∃ R, T = ⟨true, 2, 2, 0, Ad.z, false, 0, 0, [], R⟩ ∧ R.all rcOk6 = true ∧ R.length < 65) ∨
    (∃ resp g q rob ev src, T = ⟨true, 2, 1, resp, g, q, rob, ev, src, []⟩ ∧ (valN 4096 (cod16 resp) : Int) = resp ∧ (valN 16 (cod8 ev) : Int) = ev ∧ 0 ≤ rob ∧ rob < 8 ∧ srcs6 src = true ∧ (zero6 g = true ∨ grp6 g = true) ∧ (zero6 g = false ∨ src = [])) := by
  obtain ⟨v6, ver, kind, resp, g, quiet, rob, every, src, recs⟩ := T
  unfold good6 at h
  simp only at h
  split at h
  · cases h
  rename_i h1
  split at h
  · cases h
  rename_i h2
  have a1 : v6 = true ∧ 1 ≤ ver ∧ ver ≤ 2 ∧ 1 ≤ kind ∧ kind ≤ 3 ∧ ¬(ver = 2 ∧ kind = 3) := by
    simp at h1
    obtain ⟨⟨⟨⟨⟨h1, g1⟩, g2⟩, g3⟩, g4⟩, g5⟩ := h1
    refine ⟨h1, ?_, ?_, ?_, ?_, ?_⟩ <;> first | exact h1 | omega
  obtain ⟨rfl, v1, v2, k1, k2, nk⟩ := a1
  clear h1
  have hx : ¬(ver = 2 ∧ kind = 1) → quiet = false ∧ rob = 0 ∧ every = 0 ∧ src = [] := fun hn => by
    have e : (!(ver == 2 && kind == 1)) = true := by
      simp
      omega
    rw [e] at h2
    simp at h2
    exact ⟨h2.1.1.1.1, h2.1.1.1.2, h2.1.1.2, h2.1.2⟩
  have hr : kind ≠ 1 → resp = 0 := fun hn => by
    have e : (kind != 1) = true := by simpa using hn
    rw [e] at h2
    simp at h2
    exact h2.2
  clear h2
  by_cases e22 : ver = 2 ∧ kind = 2
  · obtain ⟨rfl, rfl⟩ := e22
    obtain ⟨rfl, rfl, rfl, rfl⟩ := hx (by omega)
    obtain rfl := hr (by omega)
    simp at h
    obtain ⟨hR, ⟨⟨hg1, hg2⟩, hl⟩, _⟩ := h
    have hg : g = Ad.z := Ad.ext2 hg1 (show g.b = zero16 by unfold zeroA at hg2; simpa using hg2)
    subst hg
    exact .inr (.inr (.inl ⟨recs, rfl, by simpa using hR, hl⟩))
  rw [if_neg (by simpa using e22)] at h
  split at h
  · cases h
  rename_i h3
  have hrec : recs = [] := by simpa using h3
  subst hrec
  by_cases ek : kind = 1
  rotate_left
  · rw [if_pos (by simp; omega)] at h
    obtain ⟨rfl, rfl, rfl, rfl⟩ := hx (by omega)
    obtain rfl := hr (by omega)
    obtain rfl : ver = 1 := by omega
    exact .inr (.inl ⟨g, kind, rfl, h, by omega⟩)
  subst ek
  rw [if_neg (by simp)] at h
  split at h
  · cases h
  rename_i h4
  have hg : (zero6 g = true ∨ grp6 g = true) ∧ 0 ≤ resp := by
    simp at h4
    refine ⟨?_, by omega⟩
    cases hz : zero6 g
    · exact .inr (h4.1 hz)
    · exact .inl rfl
  by_cases w1 : ver = 1
  · subst w1
    obtain ⟨rfl, rfl, rfl, rfl⟩ := hx (by omega)
    simp at h
    exact .inl ⟨resp, g, rfl, hg.2, h, hg.1⟩
  obtain rfl : ver = 2 := by omega
  rw [if_neg (by simp)] at h
  simp at h
  obtain ⟨⟨⟨⟨⟨⟨q1, q2⟩, q3⟩, q4⟩, q5⟩, q6⟩, q7⟩ := h
  exact .inr (.inr (.inr ⟨resp, g, quiet, rob, every, src, rfl, q1, q3, q4, q5, q6, hg.1, by rcases q7 with q7 | q7; exact .inl q7; exact .inr q7⟩))
section
variable {f t : Ad}
theorem back_len {T : Tk} : (headL T).length = 2 := by unfold headL; simp [putL_length]
theorem ps_even {n : Nat} : (psB f t n).data.toList.length % 2 = 0 := by
  have h1 := f.h
  have h2 := t.h
  unfold psB pseudoB
  split
  · simp only [toList_append, str_toList, List.length_append, putL_length, h1, h2]
  · simp only [toList_append, str_toList, List.length_append, putL_length, List.length_take, h1, h2]
    rfl
theorem write_list {T : Tk} : (writeT f t T).data.toList = headL T ++ (putL (sumN f t T) 2 ++ restL T) := by simp [writeT, str]
theorem write_size {T : Tk} : (writeT f t T).size = 4 + (restL T).length := by
  rw [← size_toList, write_list]
  simp only [List.length_append, putL_length, back_len]
  omega
theorem back_sum {T : Tk} : sumOk6 f t (writeT f t T) = true := by
  unfold sumOk6
  rw [write_size, write_list, show (psB f t (4 + (restL T).length)).data.toList = psL f t T from rfl]
  have hev : (psL f t T).length % 2 = 0 := ps_even
  have hf := foldN_le (wsum (psL f t T ++ (headL T ++ restL T)))
  have w2 : wsum (putL (sumN f t T) 2) = sumN f t T := by rw [wsum_two _ (by rw [putL_length]), numL_putL, Nat.mod_eq_of_lt (by unfold sumN; omega)]
  rw [wsum_append (by omega), wsum_append (by rw [back_len]), wsum_append (by rw [putL_length]), w2]
  have h2 : wsum (psL f t T ++ (headL T ++ restL T)) = wsum (psL f t T) + (wsum (headL T) + wsum (restL T)) := by rw [wsum_append (by omega), wsum_append (by rw [back_len])]
  have := fold_check (wsum (psL f t T ++ (headL T ++ restL T)))
  have e2 : wsum (psL f t T) + (wsum (headL T) + (sumN f t T + wsum (restL T))) = wsum (psL f t T ++ (headL T ++ restL T)) + (65535 - foldN (wsum (psL f t T ++ (headL T ++ restL T)))) := by unfold sumN; omega
  rw [e2, this]
  rfl
set_option maxHeartbeats 1000000 in
theorem back_read {T : Tk} (h : good6 T = true) : rReadT (writeT f t T) = (T, 0) ∧ 8 ≤ (writeT f t T).size := by
  have hs : (writeT f t T).data.toList = putL (kindN T) 1 ++ (putL 0 1 ++ (putL (sumN f t T) 2 ++ restL T)) := by rw [write_list]; unfold headL; simp only [List.append_assoc]
  have hz := write_size (f := f) (t := t) (T := T)
  generalize writeT f t T = s at *
  have s0 : s.data.toList = [] ++ (putL (kindN T) 1 ++ (putL 0 1 ++ (putL (sumN f t T) 2 ++ restL T))) := hs
  have s4 : s.data.toList = (putL (kindN T) 1 ++ putL 0 1 ++ putL (sumN f t T) 2) ++ restL T := by rw [hs]; simp only [List.append_assoc]
  have l4 : (putL (kindN T) 1 ++ putL 0 1 ++ putL (sumN f t T) 2).length = 4 := by simp only [List.length_append, putL_length]
  have hk : kindN T < 256 := by unfold kindN; split <;> (try split) <;> (try split) <;> omega
  have n0 : numAt s 0 1 = kindN T := numAt_mid s0 rfl (by omega)
  generalize putL (kindN T) 1 ++ putL 0 1 ++ putL (sumN f t T) 2 = P at *
  rcases good6_cases h with ⟨r, g, rfl, r1, r2, hg⟩ | ⟨g, k, rfl, hg, hkv⟩ | ⟨R, rfl, hR, hl⟩ | ⟨resp, g, q, rob, ev, src, rfl, h1, h2, h3, h4, h5, hg, h6⟩
  · have gv : g.v = true := by
      rcases hg with hg | hg
      · unfold zero6 at hg; simp at hg; exact hg.1
      · exact grp6_v hg
    have er : restL ⟨true, 1, 1, r, g, false, 0, 0, [], []⟩ = putL r.toNat 2 ++ (putL 0 2 ++ bytesA g.v g.b) := by simp [restL, respN]
    have ek : kindN ⟨true, 1, 1, r, g, false, 0, 0, [], []⟩ = 130 := by simp [kindN]
    rw [ek] at n0
    rw [er] at hz s4
    simp only [List.length_append, putL_length, v6_len gv] at hz
    have ea : ad16 s 8 = g := ad16_mid (pre := P ++ putL r.toNat 2 ++ putL 0 2) (post := []) (by rw [s4]; simp only [List.append_assoc, List.append_nil]) (by simp only [List.length_append, putL_length]; omega) gv
    have n4 : numAt s 4 2 = r.toNat := numAt_mid (post := putL 0 2 ++ bytesA g.v g.b) s4 l4 (by omega)
    refine ⟨?_, by omega⟩
    unfold rReadT rOneF
    have hq : ¬ (grp6 g || (true && zero6 g)) = false := by rcases hg with hg | hg <;> simp [hg]
    have e5 : (numAt s 0 1 == 130) = true := by simpa using n0
    rw [if_pos (.inl n0), if_neg (by omega), if_neg (by omega), ea, e5, if_neg hq, if_neg (by omega), if_pos (by omega), n4, Int.toNat_of_nonneg (by omega)]
  · have gv := grp6_v hg
    have er : restL ⟨true, 1, k, 0, g, false, 0, 0, [], []⟩ = putL 0 2 ++ (putL 0 2 ++ bytesA g.v g.b) := by
      unfold restL respN
      simp only
      rw [if_neg (by omega), if_neg (by omega), if_neg (by omega)]
      rfl
    rw [er] at hz s4
    simp only [List.length_append, putL_length, v6_len gv] at hz
    have ea : ad16 s 8 = g := ad16_mid (pre := P ++ putL 0 2 ++ putL 0 2) (post := []) (by rw [s4]; simp only [List.append_assoc, List.append_nil]) (by simp only [List.length_append, putL_length]; omega) gv
    refine ⟨?_, by omega⟩
    rcases hkv with rfl | rfl
    · have ek : kindN ⟨true, 1, 2, 0, g, false, 0, 0, [], []⟩ = 131 := by simp [kindN]
      rw [ek] at n0
      unfold rReadT rOneF
      rw [if_pos (.inr (.inl n0)), if_neg (by omega), if_neg (by omega), ea, hg, if_neg (by simp), if_pos (by omega), n0]
      rfl
    · have ek : kindN ⟨true, 1, 3, 0, g, false, 0, 0, [], []⟩ = 132 := by simp [kindN]
      rw [ek] at n0
      unfold rReadT rOneF
      rw [if_pos (.inr (.inr n0)), if_neg (by omega), if_neg (by omega), ea, hg, if_neg (by simp), if_pos (by omega), n0]
      rfl
  · have er : restL ⟨true, 2, 2, 0, Ad.z, false, 0, 0, [], R⟩ = putL 0 2 ++ (putL R.length 2 ++ recsB R) := by simp [restL]
    have ek : kindN ⟨true, 2, 2, 0, Ad.z, false, 0, 0, [], R⟩ = 143 := by simp [kindN]
    rw [ek] at n0
    rw [er] at hz s4
    simp only [List.length_append, putL_length] at hz
    refine ⟨?_, by omega⟩
    have n6 : numAt s 6 2 = R.length := numAt_mid (pre := P ++ putL 0 2) (post := recsB R) (by rw [s4]; simp only [List.append_assoc]) (by simp only [List.length_append, putL_length]; omega) (by omega)
    have e8 := rRecL_mid (s := s) (n := R.length) (R := R) (pre := P ++ putL 0 2 ++ putL R.length 2) (k := 8) (f := 65) (i := 0) (X := []) hR (by rw [s4]; simp only [List.append_assoc]) (by simp only [List.length_append, putL_length]; omega) (by omega) (by omega)
    unfold rReadT rRecF
    rw [n0, if_neg (by omega), if_pos rfl, n6, if_neg (by omega), e8]
    rfl
  · have gv : g.v = true := by
      rcases hg with hg | hg
      · unfold zero6 at hg; simp at hg; exact hg.1
      · exact grp6_v hg
    have er : restL ⟨true, 2, 1, resp, g, q, rob, ev, src, []⟩ = putL (cod16 resp) 2 ++ (putL 0 2 ++ (bytesA g.v g.b ++ (putL (flagN ⟨true, 2, 1, resp, g, q, rob, ev, src, []⟩) 1 ++ (putL (cod8 ev) 1 ++ (putL src.length 2 ++ srcB src))))) := by simp [restL, respN]
    have ek : kindN ⟨true, 2, 1, resp, g, q, rob, ev, src, []⟩ = 130 := by simp [kindN]
    have ef : flagN ⟨true, 2, 1, resp, g, q, rob, ev, src, []⟩ = rob.toNat + (if q then 8 else 0) := rfl
    have hf : flagN ⟨true, 2, 1, resp, g, q, rob, ev, src, []⟩ < 16 := by rw [ef]; split <;> omega
    generalize flagN ⟨true, 2, 1, resp, g, q, rob, ev, src, []⟩ = fl at *
    have c1 := cod16_le resp
    have c2 := cod8_le ev
    obtain ⟨_, hl⟩ := srcs6_all h5
    rw [ek] at n0
    rw [er] at hz s4
    have lg := v6_len gv
    simp only [List.length_append, putL_length, lg] at hz
    have n4 : numAt s 4 2 = cod16 resp := numAt_mid (post := putL 0 2 ++ (bytesA g.v g.b ++ (putL fl 1 ++ (putL (cod8 ev) 1 ++ (putL src.length 2 ++ srcB src))))) s4 l4 (by omega)
    have ea : ad16 s 8 = g := ad16_mid (pre := P ++ putL (cod16 resp) 2 ++ putL 0 2) (post := putL fl 1 ++ (putL (cod8 ev) 1 ++ (putL src.length 2 ++ srcB src))) (by rw [s4]; simp only [List.append_assoc]) (by simp only [List.length_append, putL_length]; omega) gv
    have n24 : numAt s 24 1 = fl := numAt_mid (pre := P ++ putL (cod16 resp) 2 ++ putL 0 2 ++ bytesA g.v g.b) (post := putL (cod8 ev) 1 ++ (putL src.length 2 ++ srcB src)) (by rw [s4]; simp only [List.append_assoc]) (by simp only [List.length_append, putL_length]; omega) (by omega)
    have n25 : numAt s 25 1 = cod8 ev := numAt_mid (pre := P ++ putL (cod16 resp) 2 ++ putL 0 2 ++ bytesA g.v g.b ++ putL fl 1) (post := putL src.length 2 ++ srcB src) (by rw [s4]; simp only [List.append_assoc]) (by simp only [List.length_append, putL_length]; omega) (by omega)
    have n26 : numAt s 26 2 = src.length := numAt_mid (pre := P ++ putL (cod16 resp) 2 ++ putL 0 2 ++ bytesA g.v g.b ++ putL fl 1 ++ putL (cod8 ev) 1) (post := srcB src) (by rw [s4]; simp only [List.append_assoc]) (by simp only [List.length_append, putL_length]; omega) (by omega)
    have n28 : rSrcF s 28 src.length = (src, 0) := rSrcF_mid (post := []) (pre := P ++ putL (cod16 resp) 2 ++ putL 0 2 ++ bytesA g.v g.b ++ putL fl 1 ++ putL (cod8 ev) 1 ++ putL src.length 2) h5 (by rw [s4]; simp only [List.append_assoc, List.append_nil]) (by simp only [List.length_append, putL_length]; omega)
    refine ⟨?_, by omega⟩
    have hq : ¬ (grp6 g || (true && zero6 g)) = false := by rcases hg with hg | hg <;> simp [hg]
    have hzz : ¬ (zero6 g = true ∧ 0 < src.length) := fun hh => by
      rcases h6 with h6 | h6
      · rw [h6] at hh; simp at hh
      · rw [h6] at hh
        simp at hh
    have eq1 : decide (fl / 8 % 2 = 1) = q := by rw [ef]; cases q <;> simp <;> omega
    have eq2 : ((fl % 8 : Nat) : Int) = rob := by rw [ef]; cases q <;> simp <;> omega
    have e5 : (numAt s 0 1 == 130) = true := by simpa using n0
    unfold rReadT rOneF
    rw [if_pos (.inl n0), if_neg (by omega), if_neg (by omega), ea, e5, if_neg hq, if_neg (by omega), if_neg (by omega), n24, n25, n26, n28, n4, if_neg hzz, eq1, eq2, h1, h2]
theorem back_all {T : Tk} (h : good6 T = true) : rReadF f t (writeT f t T) = (T, 0) := by
  obtain ⟨e, h8⟩ := back_read (f := f) (t := t) h
  unfold rReadF
  rw [if_neg (by omega), if_neg (by rw [back_sum]; simp), e, if_pos rfl]
theorem restL_le {T : Tk} (h : good6 T = true) : (restL T).length ≤ 90000 := by
  rcases good6_cases h with ⟨r, g, rfl, r1, r2, hg⟩ | ⟨g, k, rfl, hg, hkv⟩ | ⟨R, rfl, hR, hl⟩ | ⟨resp, g, q, rob, ev, src, rfl, h1, h2, h3, h4, h5, hg, h6⟩
  · have gv : g.v = true := by
      rcases hg with hg | hg
      · unfold zero6 at hg; simp at hg; exact hg.1
      · exact grp6_v hg
    simp [restL, putL_length, v6_len gv]
  · have gv := grp6_v hg
    unfold restL
    simp only
    rw [if_neg (by omega), if_neg (by omega)]
    simp [putL_length, v6_len gv]
  · have := recN_le (k := 20) (s := 16) rcOk6_len _ hR
    have h2 := recsB_len hR
    simp [restL, putL_length]
    omega
  · have gv : g.v = true := by
      rcases hg with hg | hg
      · unfold zero6 at hg; simp at hg; exact hg.1
      · exact grp6_v hg
    obtain ⟨q1, q2⟩ := srcs6_all h5
    have := srcB_len q1
    simp [restL, putL_length, v6_len gv]
    omega
end
end Go.Proofs.YtdnehjhijmeihaaGreat.V
