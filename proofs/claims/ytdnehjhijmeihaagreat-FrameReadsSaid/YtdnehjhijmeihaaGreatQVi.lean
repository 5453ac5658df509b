/-
  Joined texts: Vi.
-/
import Derived.Test.YtdnehjhijmeihaaGreatQVgh
import Derived.Test.YtdnehjhijmeihaaGreatQPs
import Derived.Test.YtdnehjhijmeihaaGreatQJm
import Derived.Test.YtdnehjhijmeihaaGreatQSl
namespace Go.Proofs.YtdnehjhijmeihaaGreat.V
-- %in
open Go.ChangeShapes Go.WideShapes Go.ChangeAt Go.RowKit
set_option linter.unusedVariables false
set_option linter.unusedSimpArgs false
set_option maxRecDepth 20000
attribute [local irreducible] wpList

def psB (f t : Ad) (n : Nat) : ByteArray := pseudoB (f.v || t.v) f.b t.b 58 n
def sumOk6 (f t : Ad) (s : ByteArray) : Bool := decide (foldN (wsum ((psB f t s.size).data.toList ++ s.data.toList)) = 65535)
def st0 : St := ⟨0, false, 0⟩
def kindF (s : ByteArray) : Nat := numV s 1 st0
def st2 (s : ByteArray) : St := stepS s 3 (stepS s 1 st0)
noncomputable def readT (s : ByteArray) : Tk × St :=
  if kindF s = 130 then oneF s (st2 s) 1 s.size
  else if kindF s = 131 then oneF s (st2 s) 2 s.size
  else if kindF s = 132 then oneF s (st2 s) 3 s.size
  else if kindF s = 143 then (⟨true, 2, 2, 0, Ad.z, false, 0, 0, [], (repF s (st2 s)).1⟩, (repF s (st2 s)).2)
  else (Tk.z, ⟨(st2 s).k, (st2 s).b, 5⟩)
noncomputable def readF (f t : Ad) (s : ByteArray) : Tk × Int :=
  if (f.v && t.v) = false then (Tk.z, 1) else if s.size < 8 then (Tk.z, 3) else if sumOk6 f t s = false then (Tk.z, 4) else if (readT s).2.e = 0 then ((readT s).1, 0) else (Tk.z, (readT s).2.e)
theorem tkz_seg : fls (tkS Tk.z none 0 none 0) = fls [.one (.bool false), .one (.int .i64 0), .one (.int .i64 0), .one (.int .i64 0), .many (zeroL Tryz.prog 25) 17, .one (.bool false), .one (.int .i64 0), .one (.int .i64 0), .one (.slice none 0 0), .one (.slice none 0 0)] := by
  rw [← adL_z]
  rfl
theorem zadr_ok : OkA (zeroL Tryz.prog 25) 17 := by rw [← adL_z]; exact adL_ok _
def RdPost (w : World) (T : Tk) (c : Int) (e : Ending) (w' : World) : Prop := ∃ sp sc rp rc D, e = .returned (.tuple #[.agg (fls (tkS T sp sc rp rc)).toArray, .int .i64 c]) ∧ Made w w' D ∧ TkIn D sp rp T
theorem RdPost.mk {w : World} {T : Tk} {c : Int} {e : Ending} {w' : World} {sp rp : Option Addr} {sc rc : Nat} {D : HB} (h1 : e = .returned (.tuple #[.agg (fls (tkS T sp sc rp rc)).toArray, .int .i64 c])) (h2 : Made w w' D) (h3 : TkIn D sp rp T) : RdPost w T c e w' := ⟨sp, sc, rp, rc, D, h1, h2, h3⟩
theorem TkIn.z {D : HB} : TkIn D none none Tk.z := fun _ _ _ _ => ⟨AdsAt.nil, RcsAt.nil⟩
theorem oneF_recs (s : ByteArray) (t : St) (kd : Int) (n : Nat) : (oneF s t kd n).1.recs = [] := by
  unfold oneF
  simp only
  split
  · split <;> rfl
  · rfl
section
variable {w : World} {s : ByteArray} {f t : Ad}
theorem ad_cs (a : Ad) : AdrCs (addrV a.v a.b) a.v a.b := ⟨rfl, a.h⟩
theorem psB_any {n : Nat} (hn : n < 9223372036854775808) : Gives Tryz.prog 175 #[.agg (fls [.many (adL f) 17]).toArray, .agg (fls [.many (adL t) 17]).toArray, .int .i64 58, .int .i64 (n : Int)] w (.string (psB f t n)) := by
  rw [← rg_segs, ← rg_segs]
  exact pseudo_any (p := 58) (ad_cs f) (ad_cs t) (by decide +kernel) (by omega) (u64_small (by omega)) (by omega)
theorem vpseudo_any {n : Nat} (hn : n < 9223372036854775808) : Gives Tryz.prog 129 #[.agg (fls [.many (adL f) 17]).toArray, .agg (fls [.many (adL t) 17]).toArray, .int .i64 (n : Int)] w (.string (psB f t n)) := by
  have f1 : ∀ w, Gives Tryz.prog 175 #[.agg (fls [.many (adL f) 17]).toArray, .agg (fls [.many (adL t) 17]).toArray, .int .i64 58, .int .i64 (n : Int)] w (.string (psB f t n)) := fun w => psB_any hn
  have oF := adL_ok f
  have oT := adL_ok t
  generalize psB f t n = r at *
  generalize adL f = F at *
  generalize adL t = G at *
  refine Gives.of ?_
  have hH := Hp.refl w
  go_enter Tryz.func129, Tryz.ntmps129
  go_wp2_with (first | (refine st ?_; clear hH; (first | intro W g hH | intro W hH)))
  go_ret
  exact ⟨rfl, hH.below⟩
theorem psB_size (n : Nat) : (psB f t n).size ≤ 100 := by
  unfold psB pseudoB
  have h1 := f.h
  have h2 := t.h
  split
  · simp only [ByteArray.size_append, str_size, putL_length]; omega
  · simp only [ByteArray.size_append, str_size, putL_length, List.length_take]; omega
theorem vsgood_any (hs : s.size ≤ 100000) {W : World} {g c : Nat} (h : Row W g 9 (fls [.one (.string (psB f t s.size)), .one (.string s)]).toArray) : Gives Tryz.prog 151 #[.slice (some ⟨g, 0, none⟩) 2 c] W (.bool (sumOk6 f t s)) := by
  have hp := psB_size (f := f) (t := t) s.size
  have h := Good_row (m := 2) (c := c) (ss := [psB f t s.size, s]) rfl ⟨by simp; omega, by simp⟩ (by simpa [fls] using h)
  rwa [show flat [psB f t s.size, s] = (psB f t s.size).data.toList ++ s.data.toList by simp only [flat, List.flatMap_cons, List.flatMap_nil, List.append_nil]] at h
theorem vsix2_any {W : World} {g c : Nat} {ty : TypeId} (h : Row W g ty (fls [.many (adL f) 17, .many (adL t) 17]).toArray) : Gives Tryz.prog 124 #[.slice (some ⟨g, 0, none⟩) 2 c] W (.bool (f.v && t.v)) := by
  have h := vsix_any (c := c) (adsAt_row (L := [f, t]) (J := []) (by simp) (by simpa [fls, adsL] using h))
  simpa using h
/-- what the calls ahead do -/
theorem pre2 (B : Nat) (w0 : World) (hs : s.size ≤ 100000) : ∃ (t1 : St) (v3 : Nat), (∀ g gr, NumC B w0 g gr s 1 st0 (kindF s) t1) ∧ (∀ g gr, NumC B w0 g gr s 3 t1 v3 (st2 s)) ∧ (st2 s).k ≤ s.size :=
  ⟨_, _, fun g gr => numC (by omega) hs (Nat.zero_le _), fun g gr => numC (by omega) hs (stepS_k (Nat.zero_le _)), stepS_k (stepS_k (Nat.zero_le _))⟩
set_option maxHeartbeats 8000000 in
theorem vread_six (h : (f.v && t.v) = false) : Calls Tryz.prog 110 #[.string s, .agg (fls [.many (adL f) 17]).toArray, .agg (fls [.many (adL t) 17]).toArray] w fun e w' => RdPost w Tk.z 1 e w' := by
  have hH := Hp.refl w
  have hsix := Lib.hid (fun (W : World) (g c : Nat) (ty : TypeId) (h : Row W g ty (fls [.many (adL f) 17, .many (adL t) 17]).toArray) => vsix2_any (c := c) h)
  have oF := adL_ok f
  have oT := adL_ok t
  rw [h] at hsix
  clear h
  generalize adL f = F at *
  generalize adL t = G at *
  go_enter Tryz.func110, Tryz.ntmps110
  go_wp2_with (first | ((go_at_call 124; refine callR 0 hH rfl (fun hr => hsix.out _ _ _ _ hr) ?_; (clear hH; (first | intro W g hH | intro W hH); (try simp only [Act.put, pA, pB, pC])))) | (refine st ?_; clear hH; (first | intro W g hH | intro W hH)))
  (refine iRet2 Tryz.results110 tab_ok rfl rfl hH ?_; refine ⟨_, _, rfl, rfl, rfl, ?_⟩)
  exact RdPost.mk (sp := none) (rp := none) (sc := 0) (rc := 0) (D := []) (by rw [tkz_seg]; rfl) ⟨hH.nil, by simp⟩ TkIn.z
set_option maxHeartbeats 8000000 in
theorem vread_short (h : (f.v && t.v) = true) (h8 : s.size < 8) : Calls Tryz.prog 110 #[.string s, .agg (fls [.many (adL f) 17]).toArray, .agg (fls [.many (adL t) 17]).toArray] w fun e w' => RdPost w Tk.z 3 e w' := by
  have hH := Hp.refl w
  have hsix := Lib.hid (fun (W : World) (g c : Nat) (ty : TypeId) (h : Row W g ty (fls [.many (adL f) 17, .many (adL t) 17]).toArray) => vsix2_any (c := c) h)
  have oF := adL_ok f
  have oT := adL_ok t
  rw [h] at hsix
  clear h
  have d1 : decide ((s.size : Int) < 8) = true := decide_eq_true (by omega)
  generalize adL f = F at *
  generalize adL t = G at *
  go_enter Tryz.func110, Tryz.ntmps110
  go_wp2_with (first | ((go_at_call 124; refine callR 0 hH rfl (fun hr => hsix.out _ _ _ _ hr) ?_; (clear hH; (first | intro W g hH | intro W hH); (try simp only [Act.put, pA, pB, pC])))) | (refine st ?_; clear hH; (first | intro W g hH | intro W hH)))
  (refine iRet2 Tryz.results110 tab_ok rfl rfl hH ?_; refine ⟨_, _, rfl, rfl, rfl, ?_⟩)
  exact RdPost.mk (sp := none) (rp := none) (sc := 0) (rc := 0) (D := []) (by rw [tkz_seg]; rfl) ⟨hH.nil, by simp⟩ TkIn.z
set_option maxHeartbeats 8000000 in
theorem vread_sum (hs : s.size ≤ 100000) (h : (f.v && t.v) = true) (h8 : 8 ≤ s.size) (hb : sumOk6 f t s = false) : Calls Tryz.prog 110 #[.string s, .agg (fls [.many (adL f) 17]).toArray, .agg (fls [.many (adL t) 17]).toArray] w fun e w' => RdPost w Tk.z 4 e w' := by
  have hH := Hp.refl w
  have hsix := Lib.hid (fun (W : World) (g c : Nat) (ty : TypeId) (h : Row W g ty (fls [.many (adL f) 17, .many (adL t) 17]).toArray) => vsix2_any (c := c) h)
  have oF := adL_ok f
  have oT := adL_ok t
  rw [h] at hsix
  have d1 : decide ((s.size : Int) < 8) = false := decide_eq_false (by omega)
  have hgood := Lib.hid (fun (W : World) (g c : Nat) h => vsgood_any (f := f) (t := t) (c := c) hs (W := W) (g := g) h)
  have hp : ∀ w, Gives Tryz.prog 129 #[.agg (fls [.many (adL f) 17]).toArray, .agg (fls [.many (adL t) 17]).toArray, .int .i64 (s.size : Int)] w (.string (psB f t s.size)) := fun w => vpseudo_any (by omega)
  rw [hb] at hgood
  clear h hb
  generalize psB f t s.size = PB at *
  generalize adL f = F at *
  generalize adL t = G at *
  go_enter Tryz.func110, Tryz.ntmps110
  go_wp2_with (first | ((go_at_call 124; refine callR 0 hH rfl (fun hr => hsix.out _ _ _ _ hr) ?_; (clear hH; (first | intro W g hH | intro W hH); (try simp only [Act.put, pA, pB, pC])))) | ((go_at_call 151; refine callR 0 hH rfl (fun hr => hgood.out _ _ _ hr) ?_; (clear hH; (first | intro W g hH | intro W hH); (try simp only [Act.put, pA, pB, pC])))) | (refine st ?_; clear hH; (first | intro W g hH | intro W hH)))
  (refine iRet2 Tryz.results110 tab_ok rfl rfl hH ?_; refine ⟨_, _, rfl, rfl, rfl, ?_⟩)
  exact RdPost.mk (sp := none) (rp := none) (sc := 0) (rc := 0) (D := []) (by rw [tkz_seg]; rfl) ⟨hH.nil, by simp⟩ TkIn.z
set_option maxHeartbeats 8000000 in
theorem vread_one (hs : s.size ≤ 100000) (h : (f.v && t.v) = true) (h8 : 8 ≤ s.size) (hb : sumOk6 f t s = true) {kd : Int} (hk : (kindF s = 130 ∧ kd = 1) ∨ (kindF s = 131 ∧ kd = 2) ∨ (kindF s = 132 ∧ kd = 3)) : Calls Tryz.prog 110 #[.string s, .agg (fls [.many (adL f) 17]).toArray, .agg (fls [.many (adL t) 17]).toArray] w fun e w' => RdPost w (readF f t s).1 (readF f t s).2 e w' := by
  have hH := Hp.refl w
  have hsix := Lib.hid (fun (W : World) (g c : Nat) (ty : TypeId) (h : Row W g ty (fls [.many (adL f) 17, .many (adL t) 17]).toArray) => vsix2_any (c := c) h)
  have oF := adL_ok f
  have oT := adL_ok t
  obtain ⟨t1, v3, N1, N3, hk2⟩ := pre2 w.heap.size w hs
  replace N1 := Lib.hid N1
  replace N3 := Lib.hid N3
  have oZ := zadr_ok
  have he : readF f t s = if (readT s).2.e = 0 then ((readT s).1, 0) else (Tk.z, (readT s).2.e) := by unfold readF; rw [if_neg (by rw [h]; simp), if_neg (by omega), if_neg (by rw [hb]; simp)]
  obtain ⟨⟨v6, ver, kd', resp, a, quiet, rob, every, src, recs⟩, t5, hres⟩ : ∃ R t, oneF s (st2 s) kd s.size = (R, t) := ⟨_, _, rfl⟩
  have hrec : recs = [] := by have := oneF_recs s (st2 s) kd s.size; rw [hres] at this; exact this
  subst hrec
  have hT : readT s = (⟨v6, ver, kd', resp, a, quiet, rob, every, src, []⟩, t5) := by
    unfold readT
    rcases hk with ⟨h1, rfl⟩ | ⟨h1, rfl⟩ | ⟨h1, rfl⟩
    · rw [if_pos h1, hres]
    · rw [if_neg (by omega), if_pos h1, hres]
    · rw [if_neg (by omega), if_neg (by omega), if_pos h1, hres]
  have hkd : kd = 1 ∨ kd = 2 ∨ kd = 3 := by omega
  have RP := Lib.hid (show ∀ (W : World) (H : HB) (Q : Ending → World → Prop) (g gr : Nat), Hp w.heap.size w W (rdH g gr s (st2 s) true 1 kd 0 (zeroL Tryz.prog 25) false 0 0 none 0 0 none 0 0 H) → (∀ W' sp sc D, Hid (∀ B w0 W, Hp B w0 W D → AdsAt W sp src) → Hid (∀ r ∈ D, r.2.2.1 = true) → Hp w.heap.size w W' (rdH g gr s t5 v6 ver kd' resp (adL a) quiet rob every sp src.length sc none 0 0 (H ++ D)) → Q (.returned (.tuple #[])) W') → Calls Tryz.prog 153 #[.pointer (some ⟨g, 0, none⟩), .int .i64 (s.size : Int)] W Q from fun W H Q g gr hH hQ => by
      refine vone_any (k := (st2 s).k) (b := (st2 s).b) (e := (st2 s).e) zadr_ok hkd hs hs hk2 hH ?_
      intro W' R2 t2 D sp sc e hA hD hH
      have e2 := e.out.symm.trans hres
      injection e2 with e3 e4
      subst e3
      subst e4
      exact hQ W' sp sc D hA hD hH)
  rw [hT] at he
  clear hT hres hk2
  generalize kindF s = kn at *
  generalize st2 s = t3 at *
  obtain ⟨k3, b3, e3⟩ := t3
  rw [h] at hsix
  have d1 : decide ((s.size : Int) < 8) = false := decide_eq_false (by omega)
  have hgood := Lib.hid (fun (W : World) (g c : Nat) h => vsgood_any (f := f) (t := t) (c := c) hs (W := W) (g := g) h)
  have hp : ∀ w, Gives Tryz.prog 129 #[.agg (fls [.many (adL f) 17]).toArray, .agg (fls [.many (adL t) 17]).toArray, .int .i64 (s.size : Int)] w (.string (psB f t s.size)) := fun w => vpseudo_any (by omega)
  rw [hb] at hgood
  clear h hb
  generalize psB f t s.size = PB at *
  generalize adL f = F at *
  generalize adL t = G at *
  have oA := adL_ok a
  obtain ⟨A, hA⟩ : ∃ Y, Y = adL a := ⟨_, rfl⟩
  have HA := Lib.hid hA
  rw [← hA] at RP oA
  clear hA hs h8 hkd
  obtain ⟨k5, b5, e5⟩ := t5
  simp only at he
  rcases hk with ⟨rfl, rfl⟩ | ⟨rfl, rfl⟩ | ⟨rfl, rfl⟩
  all_goals
    by_cases hz : e5 = 0
    · subst hz
      rw [if_pos rfl] at he
      rw [he]
      clear he
      go_enter Tryz.func110, Tryz.ntmps110
      go_wp2_with (first | ((go_at_call 124; refine callR 0 hH rfl (fun hr => hsix.out _ _ _ _ hr) ?_; (clear hH; (first | intro W g hH | intro W hH); (try simp only [Act.put, pA, pB, pC])))) | ((go_at_call 151; refine callR 0 hH rfl (fun hr => hgood.out _ _ _ hr) ?_; (clear hH; (first | intro W g hH | intro W hH); (try simp only [Act.put, pA, pB, pC])))) | ((go_at_call 47; refine hNew hH ?_; (clear hH; intro W gr hH); ((try simp only [Act.put, pA, pB, pC])))) | ((go_at_call 152; (first | refine N1.out _ _ _ _ _ _ _ _ 0 1 ?_ rfl hH rfl rfl rfl rfl ?_ | refine N3.out _ _ _ _ _ _ _ _ 0 1 ?_ rfl hH rfl rfl rfl rfl ?_); (focus assumption); (clear hH; (first | intro W g hH | intro W hH); (try simp only [Act.put, pA, pB, pC])))) | ((go_at_call 153; refine RP.out _ _ _ _ _ hH ?_; (clear hH; intro W sp sc D hA hD hH); (try simp only [List.cons_append, List.nil_append] at hH); ((try simp only [Act.put, pA, pB, pC])))) | (refine st ?_; clear hH; (first | intro W g hH | intro W hH)))
      (refine iRet2 Tryz.results110 tab_ok rfl rfl hH ?_; refine ⟨_, _, rfl, rfl, rfl, ?_⟩)
      refine RdPost.mk (sp := sp) (rp := none) (sc := sc) (rc := 0) (D := D) (by unfold tkS; simp only; rw [← HA.out]; rfl) ⟨hH.sub (by repeat (first | exact SubH.refl | apply SubH.drop)), hD.out⟩ (fun B w0 W h => ⟨hA.out _ _ _ h, RcsAt.nil⟩)
    · have d2 : (e5 != 0) = true := by simpa using hz
      rw [if_neg hz] at he
      rw [he]
      clear he
      go_enter Tryz.func110, Tryz.ntmps110
      go_wp2_with (first | ((go_at_call 124; refine callR 0 hH rfl (fun hr => hsix.out _ _ _ _ hr) ?_; (clear hH; (first | intro W g hH | intro W hH); (try simp only [Act.put, pA, pB, pC])))) | ((go_at_call 151; refine callR 0 hH rfl (fun hr => hgood.out _ _ _ hr) ?_; (clear hH; (first | intro W g hH | intro W hH); (try simp only [Act.put, pA, pB, pC])))) | ((go_at_call 47; refine hNew hH ?_; (clear hH; intro W gr hH); ((try simp only [Act.put, pA, pB, pC])))) | ((go_at_call 152; (first | refine N1.out _ _ _ _ _ _ _ _ 0 1 ?_ rfl hH rfl rfl rfl rfl ?_ | refine N3.out _ _ _ _ _ _ _ _ 0 1 ?_ rfl hH rfl rfl rfl rfl ?_); (focus assumption); (clear hH; (first | intro W g hH | intro W hH); (try simp only [Act.put, pA, pB, pC])))) | ((go_at_call 153; refine RP.out _ _ _ _ _ hH ?_; (clear hH; intro W sp sc D hA hD hH); (try simp only [List.cons_append, List.nil_append] at hH); ((try simp only [Act.put, pA, pB, pC])))) | (refine st ?_; clear hH; (first | intro W g hH | intro W hH)))
      ((with_reducible refine regKN [] hH (SubH.keep SubH.nil) (by kernel_rfl) ?_); (clear hH; intro W hH); refine kt [0, 1, 2, 3] ?_; refine kl [4] ?_; refine ko 5 ?_; go_wp2_with (first | (refine st ?_; clear hH; (first | intro W g hH | intro W hH))); refine ke ?_; refine kt [6] ?_; refine hk_endN (by kernel_rfl) ?_)
      go_wp2_with (first | (refine st ?_; clear hH; (first | intro W g hH | intro W hH)))
      (refine iRet2 Tryz.results110 tab_ok rfl rfl hH ?_; refine ⟨_, _, rfl, rfl, rfl, ?_⟩)
      exact RdPost.mk (sp := none) (rp := none) (sc := 0) (rc := 0) (D := []) (by rw [tkz_seg]; rfl) ⟨hH.nil, by simp⟩ TkIn.z
set_option maxHeartbeats 8000000 in
theorem vread_recs (hs : s.size ≤ 100000) (h : (f.v && t.v) = true) (h8 : 8 ≤ s.size) (hb : sumOk6 f t s = true) (hk : kindF s = 143) : Calls Tryz.prog 110 #[.string s, .agg (fls [.many (adL f) 17]).toArray, .agg (fls [.many (adL t) 17]).toArray] w fun e w' => RdPost w (readF f t s).1 (readF f t s).2 e w' := by
  have hH := Hp.refl w
  have hsix := Lib.hid (fun (W : World) (g c : Nat) (ty : TypeId) (h : Row W g ty (fls [.many (adL f) 17, .many (adL t) 17]).toArray) => vsix2_any (c := c) h)
  have oF := adL_ok f
  have oT := adL_ok t
  obtain ⟨t1, v3, N1, N3, hk2⟩ := pre2 w.heap.size w hs
  replace N1 := Lib.hid N1
  replace N3 := Lib.hid N3
  have oZ := zadr_ok
  have he : readF f t s = if (readT s).2.e = 0 then ((readT s).1, 0) else (Tk.z, (readT s).2.e) := by unfold readF; rw [if_neg (by rw [h]; simp), if_neg (by omega), if_neg (by rw [hb]; simp)]
  obtain ⟨R, t5, hres⟩ : ∃ R t, repF s (st2 s) = (R, t) := ⟨_, _, rfl⟩
  have hT : readT s = (⟨true, 2, 2, 0, Ad.z, false, 0, 0, [], R⟩, t5) := by unfold readT; rw [if_neg (by omega), if_neg (by omega), if_neg (by omega), if_pos hk, hres]
  have RP := Lib.hid (show ∀ (W : World) (H : HB) (Q : Ending → World → Prop) (g gr : Nat), Hp w.heap.size w W (rdH g gr s (st2 s) true 2 2 0 (zeroL Tryz.prog 25) false 0 0 none 0 0 none 0 0 H) → (∀ W' rp rc D, Hid (∀ B w0 W, Hp B w0 W D → RcsAt W rp R) → Hid (∀ r ∈ D, r.2.2.1 = true) → Hp w.heap.size w W' (rdH g gr s t5 true 2 2 0 (zeroL Tryz.prog 25) false 0 0 none 0 0 rp R.length rc (H ++ D)) → Q (.returned (.tuple #[])) W') → Calls Tryz.prog 154 #[.pointer (some ⟨g, 0, none⟩)] W Q from fun W H Q g gr hH hQ => by
      refine vrecords_any zadr_ok hs hk2 hH ?_
      intro W' R2 t2 D rp rc e hA hD hH
      have e2 := e.out.symm.trans hres
      injection e2 with e3 e4
      subst e3
      subst e4
      exact hQ W' rp rc D hA hD hH)
  rw [hT] at he
  clear hT hres hk2
  rw [hk] at N1
  clear hk
  generalize st2 s = t3 at *
  obtain ⟨k3, b3, e3⟩ := t3
  rw [h] at hsix
  have d1 : decide ((s.size : Int) < 8) = false := decide_eq_false (by omega)
  have hgood := Lib.hid (fun (W : World) (g c : Nat) h => vsgood_any (f := f) (t := t) (c := c) hs (W := W) (g := g) h)
  have hp : ∀ w, Gives Tryz.prog 129 #[.agg (fls [.many (adL f) 17]).toArray, .agg (fls [.many (adL t) 17]).toArray, .int .i64 (s.size : Int)] w (.string (psB f t s.size)) := fun w => vpseudo_any (by omega)
  rw [hb] at hgood
  clear h hb
  generalize psB f t s.size = PB at *
  generalize adL f = F at *
  generalize adL t = G at *
  clear hs h8
  obtain ⟨k5, b5, e5⟩ := t5
  simp only at he
  by_cases hz : e5 = 0
  · subst hz
    rw [if_pos rfl] at he
    rw [he]
    clear he
    go_enter Tryz.func110, Tryz.ntmps110
    go_wp2_with (first | ((go_at_call 124; refine callR 0 hH rfl (fun hr => hsix.out _ _ _ _ hr) ?_; (clear hH; (first | intro W g hH | intro W hH); (try simp only [Act.put, pA, pB, pC])))) | ((go_at_call 151; refine callR 0 hH rfl (fun hr => hgood.out _ _ _ hr) ?_; (clear hH; (first | intro W g hH | intro W hH); (try simp only [Act.put, pA, pB, pC])))) | ((go_at_call 47; refine hNew hH ?_; (clear hH; intro W gr hH); ((try simp only [Act.put, pA, pB, pC])))) | ((go_at_call 152; (first | refine N1.out _ _ _ _ _ _ _ _ 0 1 ?_ rfl hH rfl rfl rfl rfl ?_ | refine N3.out _ _ _ _ _ _ _ _ 0 1 ?_ rfl hH rfl rfl rfl rfl ?_); (focus assumption); (clear hH; (first | intro W g hH | intro W hH); (try simp only [Act.put, pA, pB, pC])))) | ((go_at_call 154; refine RP.out _ _ _ _ _ hH ?_; (clear hH; intro W rp rc D hA hD hH); (try simp only [List.cons_append, List.nil_append] at hH); ((try simp only [Act.put, pA, pB, pC])))) | (refine st ?_; clear hH; (first | intro W g hH | intro W hH)))
    (refine iRet2 Tryz.results110 tab_ok rfl rfl hH ?_; refine ⟨_, _, rfl, rfl, rfl, ?_⟩)
    refine RdPost.mk (sp := none) (rp := rp) (sc := 0) (rc := rc) (D := D) (by unfold tkS; simp only; rw [adL_z]; rfl) ⟨hH.sub (by repeat (first | exact SubH.refl | apply SubH.drop)), hD.out⟩ (fun B w0 W h => ⟨AdsAt.nil, hA.out _ _ _ h⟩)
  · have d2 : (e5 != 0) = true := by simpa using hz
    rw [if_neg hz] at he
    rw [he]
    clear he
    go_enter Tryz.func110, Tryz.ntmps110
    go_wp2_with (first | ((go_at_call 124; refine callR 0 hH rfl (fun hr => hsix.out _ _ _ _ hr) ?_; (clear hH; (first | intro W g hH | intro W hH); (try simp only [Act.put, pA, pB, pC])))) | ((go_at_call 151; refine callR 0 hH rfl (fun hr => hgood.out _ _ _ hr) ?_; (clear hH; (first | intro W g hH | intro W hH); (try simp only [Act.put, pA, pB, pC])))) | ((go_at_call 47; refine hNew hH ?_; (clear hH; intro W gr hH); ((try simp only [Act.put, pA, pB, pC])))) | ((go_at_call 152; (first | refine N1.out _ _ _ _ _ _ _ _ 0 1 ?_ rfl hH rfl rfl rfl rfl ?_ | refine N3.out _ _ _ _ _ _ _ _ 0 1 ?_ rfl hH rfl rfl rfl rfl ?_); (focus assumption); (clear hH; (first | intro W g hH | intro W hH); (try simp only [Act.put, pA, pB, pC])))) | ((go_at_call 154; refine RP.out _ _ _ _ _ hH ?_; (clear hH; intro W rp rc D hA hD hH); (try simp only [List.cons_append, List.nil_append] at hH); ((try simp only [Act.put, pA, pB, pC])))) | (refine st ?_; clear hH; (first | intro W g hH | intro W hH)))
    ((with_reducible refine regKN [] hH (SubH.keep SubH.nil) (by kernel_rfl) ?_); (clear hH; intro W hH); refine kt [0, 1, 2, 3] ?_; refine kl [4] ?_; refine ko 5 ?_; go_wp2_with (first | (refine st ?_; clear hH; (first | intro W g hH | intro W hH))); refine ke ?_; refine kt [6] ?_; refine hk_endN (by kernel_rfl) ?_)
    go_wp2_with (first | (refine st ?_; clear hH; (first | intro W g hH | intro W hH)))
    (refine iRet2 Tryz.results110 tab_ok rfl rfl hH ?_; refine ⟨_, _, rfl, rfl, rfl, ?_⟩)
    exact RdPost.mk (sp := none) (rp := none) (sc := 0) (rc := 0) (D := []) (by rw [tkz_seg]; rfl) ⟨hH.nil, by simp⟩ TkIn.z
set_option maxHeartbeats 8000000 in
theorem vread_none (hs : s.size ≤ 100000) (h : (f.v && t.v) = true) (h8 : 8 ≤ s.size) (hb : sumOk6 f t s = true) (h1 : kindF s ≠ 130) (h2 : kindF s ≠ 131) (h3 : kindF s ≠ 132) (h4 : kindF s ≠ 143) : Calls Tryz.prog 110 #[.string s, .agg (fls [.many (adL f) 17]).toArray, .agg (fls [.many (adL t) 17]).toArray] w fun e w' => RdPost w (readF f t s).1 (readF f t s).2 e w' := by
  have hH := Hp.refl w
  have hsix := Lib.hid (fun (W : World) (g c : Nat) (ty : TypeId) (h : Row W g ty (fls [.many (adL f) 17, .many (adL t) 17]).toArray) => vsix2_any (c := c) h)
  have oF := adL_ok f
  have oT := adL_ok t
  obtain ⟨t1, v3, N1, N3, hk2⟩ := pre2 w.heap.size w hs
  replace N1 := Lib.hid N1
  replace N3 := Lib.hid N3
  have oZ := zadr_ok
  have he : readF f t s = if (readT s).2.e = 0 then ((readT s).1, 0) else (Tk.z, (readT s).2.e) := by unfold readF; rw [if_neg (by rw [h]; simp), if_neg (by omega), if_neg (by rw [hb]; simp)]
  have hT : readT s = (Tk.z, ⟨(st2 s).k, (st2 s).b, 5⟩) := by unfold readT; rw [if_neg h1, if_neg h2, if_neg h3, if_neg h4]
  rw [hT, if_neg (show ¬ (5 : Int) = 0 by decide)] at he
  rw [he]
  clear hT he
  generalize kindF s = kn at *
  generalize st2 s = t3 at *
  obtain ⟨k3, b3, e3⟩ := t3
  rw [h] at hsix
  have d1 : decide ((s.size : Int) < 8) = false := decide_eq_false (by omega)
  have hgood := Lib.hid (fun (W : World) (g c : Nat) h => vsgood_any (f := f) (t := t) (c := c) hs (W := W) (g := g) h)
  have hp : ∀ w, Gives Tryz.prog 129 #[.agg (fls [.many (adL f) 17]).toArray, .agg (fls [.many (adL t) 17]).toArray, .int .i64 (s.size : Int)] w (.string (psB f t s.size)) := fun w => vpseudo_any (by omega)
  rw [hb] at hgood
  clear h hb
  generalize psB f t s.size = PB at *
  generalize adL f = F at *
  generalize adL t = G at *
  have a1 : ((kn : Int) == 130) = false := by simp; omega
  have a2 : ((kn : Int) == 131) = false := by simp; omega
  have a3 : ((kn : Int) == 132) = false := by simp; omega
  have a4 : ((kn : Int) == 143) = false := by simp; omega
  clear h1 h2 h3 h4 hs h8 hk2
  go_enter Tryz.func110, Tryz.ntmps110
  go_wp2_with (first | ((go_at_call 124; refine callR 0 hH rfl (fun hr => hsix.out _ _ _ _ hr) ?_; (clear hH; (first | intro W g hH | intro W hH); (try simp only [Act.put, pA, pB, pC])))) | ((go_at_call 151; refine callR 0 hH rfl (fun hr => hgood.out _ _ _ hr) ?_; (clear hH; (first | intro W g hH | intro W hH); (try simp only [Act.put, pA, pB, pC])))) | ((go_at_call 47; refine hNew hH ?_; (clear hH; intro W gr hH); ((try simp only [Act.put, pA, pB, pC])))) | ((go_at_call 152; (first | refine N1.out _ _ _ _ _ _ _ _ 0 1 ?_ rfl hH rfl rfl rfl rfl ?_ | refine N3.out _ _ _ _ _ _ _ _ 0 1 ?_ rfl hH rfl rfl rfl rfl ?_); (focus assumption); (clear hH; (first | intro W g hH | intro W hH); (try simp only [Act.put, pA, pB, pC])))) | (refine st ?_; clear hH; (first | intro W g hH | intro W hH)))
  ((with_reducible refine regKN [] hH (SubH.keep SubH.nil) (by kernel_rfl) ?_); (clear hH; intro W hH); refine kt [0, 1, 2, 3] ?_; refine kl [4] ?_; refine ko 5 ?_; go_wp2_with (first | (refine st ?_; clear hH; (first | intro W g hH | intro W hH))); refine ke ?_; refine kt [6] ?_; refine hk_endN (by kernel_rfl) ?_)
  go_wp2_with (first | (refine st ?_; clear hH; (first | intro W g hH | intro W hH)))
  (refine iRet2 Tryz.results110 tab_ok rfl rfl hH ?_; refine ⟨_, _, rfl, rfl, rfl, ?_⟩)
  exact RdPost.mk (sp := none) (rp := none) (sc := 0) (rc := 0) (D := []) (by rw [tkz_seg]; rfl) ⟨hH.nil, by simp⟩ TkIn.z
theorem vread_any (hs : s.size ≤ 100000) : Calls Tryz.prog 110 #[.string s, .agg (fls [.many (adL f) 17]).toArray, .agg (fls [.many (adL t) 17]).toArray] w fun e w' => RdPost w (readF f t s).1 (readF f t s).2 e w' := by
  cases h : (f.v && t.v)
  · have e : readF f t s = (Tk.z, 1) := by unfold readF; rw [if_pos h]
    rw [e]
    exact vread_six h
  by_cases h8 : s.size < 8
  · have e : readF f t s = (Tk.z, 3) := by unfold readF; rw [if_neg (by rw [h]; simp), if_pos h8]
    rw [e]
    exact vread_short h h8
  have h8' := Nat.le_of_not_lt h8
  cases hb : sumOk6 f t s
  · have e : readF f t s = (Tk.z, 4) := by unfold readF; rw [if_neg (by rw [h]; simp), if_neg h8, if_pos hb]
    rw [e]
    exact vread_sum hs h h8' hb
  by_cases h1 : kindF s = 130
  · exact vread_one hs h h8' hb (.inl ⟨h1, rfl⟩)
  by_cases h2 : kindF s = 131
  · exact vread_one hs h h8' hb (.inr (.inl ⟨h2, rfl⟩))
  by_cases h3 : kindF s = 132
  · exact vread_one hs h h8' hb (.inr (.inr ⟨h3, rfl⟩))
  by_cases h4 : kindF s = 143
  · exact vread_recs hs h h8' hb h4
  exact vread_none hs h h8' hb h1 h2 h3 h4
end
end Go.Proofs.YtdnehjhijmeihaaGreat.V
