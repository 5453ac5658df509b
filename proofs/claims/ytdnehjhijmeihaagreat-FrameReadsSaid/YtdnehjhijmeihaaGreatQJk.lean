/-
  Joined texts: Jk, Jn, Jq, Jw.
-/
import Derived.Test.YtdnehjhijmeihaaGreatQJi
import Derived.Test.YtdnehjhijmeihaaGreatQGr
import Derived.Test.YtdnehjhijmeihaaGreatQGiz
import Derived.Test.YtdnehjhijmeihaaGreatQGj
import Derived.Test.YtdnehjhijmeihaaGreatQVi
import Derived.Test.YtdnehjhijmeihaaGreatQVr
import Derived.Test.YtdnehjhijmeihaaGreatQMem
import Derived.Test.YtdnehjhijmeihaaGreatQGp
namespace Go.Proofs.YtdnehjhijmeihaaGreat
-- %in
open Go.ChangeShapes Go.WideShapes Go.ChangeAt Go.RowKit
set_option linter.unusedVariables false
set_option linter.unusedSimpArgs false
set_option maxRecDepth 20000
set_option maxHeartbeats 4000000

/-- a packet's parts -/
structure Pk where
  e : Int
  f : Ad
  a : Ad
  pr : Int
  hop : Int
  d : ByteArray
  al : Bool
def Pk.z (e : Int) : Pk := ⟨e, Ad.z, Ad.z, 0, 0, ⟨#[]⟩, false⟩
def pk4 (s : ByteArray) : Pk := if err4 s = 0 then ⟨0, ad4 s 12, ad4 s 16, by4 s 9, by4 s 8, s.extract (n4 s) (a4 s), (opt4s s).getD false⟩ else Pk.z (err4 s)
def pk6 (s : ByteArray) : Pk := if err6 s = 0 then (if by4 s 6 = 0 then ⟨0, adR (s.extract 8 24), adR (s.extract 24 40), (strip6 (b6 s)).nx, by4 s 7, (strip6 (b6 s)).r, (strip6 (b6 s)).is⟩ else ⟨0, adR (s.extract 8 24), adR (s.extract 24 40), by4 s 6, by4 s 7, b6 s, false⟩) else Pk.z (err6 s)
theorem aZ_is : aZ = adL Ad.z := adL_z.symm
theorem pk4_e (s : ByteArray) : (pk4 s).e = err4 s := by unfold pk4; split <;> simp_all [Pk.z]
theorem pk6_e (s : ByteArray) : (pk6 s).e = err6 s := by unfold pk6; split <;> (try split) <;> simp_all [Pk.z]
theorem p4X_is (s : ByteArray) : ∃ tos id, p4X s = fls (pS4 tos id (pk4 s).hop (pk4 s).pr (adL (pk4 s).f) (adL (pk4 s).a) (pk4 s).al (pk4 s).d) := by
  unfold p4X pk4 pZ4
  rw [aZ_is]
  split
  · exact ⟨(by4 s 1 : Int), ((by4 s 4 * 256 + by4 s 5 : Nat) : Int), rfl⟩
  · exact ⟨0, 0, rfl⟩
theorem p6X_is (s : ByteArray) (cl fl : Int) : ∃ c1 c2, p6X s cl fl = fls (pS6 c1 c2 (pk6 s).pr (pk6 s).hop (adL (pk6 s).f) (adL (pk6 s).a) (pk6 s).al (pk6 s).d) := by
  unfold p6X pk6 pZ6
  rw [aZ_is]
  split
  · split
    · exact ⟨cl, fl, rfl⟩
    · exact ⟨cl, fl, rfl⟩
  · exact ⟨0, 0, rfl⟩
theorem adR_v4 {x : ByteArray} (h : x.size = 4) : (adR x).v = false := by unfold adR; rw [dif_pos h]
theorem adR_v6 {x : ByteArray} (h : x.size = 16) : (adR x).v = true := by unfold adR; rw [dif_neg (by omega), dif_pos h]
theorem rdC_of {f : FuncId} {args : Array Value} {T : Tk} {e : Int} (h : ∀ w, Calls Tryz.prog f args w fun E w' => ∃ sp sc rp rc D, E = .returned (.tuple #[.agg (fls (tkS T sp sc rp rc)).toArray, .int .i64 e]) ∧ Made w w' D ∧ TkIn D sp rp T) : RdC f args T e := fun B w0 W H Q hH hQ =>
  (h W).mono fun _ _ ⟨sp, sc, rp, rc, D, he, hm, hr⟩ => by
    subst he
    have := hQ _ (fls (tkS T sp sc rp rc)) D (Lib.hid ⟨sp, sc, rp, rc, rfl, hr⟩) (Lib.hid hm.2) (hH.join hm)
    rwa [fls1] at this
def alertT (T : Tk) : Bool := T.v6 || decide (1 < T.ver)
noncomputable def tlF (T : Tk) (e : Int) (vl : Int) (p : Pk) : Res := tailR T e p.hop vl p.al (alertT T) (eqA p.a (destA T) && hereA p.f T) p.f p.a
open Classical in
/-- what is said, of a packet to a group -/
noncomputable def sayF (vl : Int) (p : Pk) : Res :=
  if p.a.v = true ∧ p.pr = 58 ∧ V.isF p.d = true then tlF (V.rReadF p.f p.a p.d).1 (V.rReadF p.f p.a p.d).2 vl p
  else if p.a.v = false ∧ p.pr = 2 then tlF (rReadF p.d).1 (rReadF p.d).2 vl p
  else ⟨2, vl, p.f, p.a, Tk.z, p.pr, p.hop, p.d, 0⟩
open Classical in
noncomputable def outF (b : ByteArray) (vl : Int) (p : Pk) : Res :=
  if p.e ≠ 0 then Res.z p.e else if groupA p.f.v p.f.b = true then Res.z 2 else if groupA p.a.v p.a.b = false then ⟨0, vl, Ad.z, Ad.z, Tk.z, 0, 0, ⟨#[]⟩, 0⟩
  else if ∃ j, j < 6 ∧ mN p.a j ≠ by4 b j then Res.z 2 else sayF vl p
noncomputable def resF (b : ByteArray) : Res :=
  if erE b ≠ 0 then Res.z (erE b) else if tyE b = 2048 then outF b (vlE b) (pk4 (bdE b)) else if tyE b = 34525 then outF b (vlE b) (pk6 (bdE b)) else ⟨0, vlE b, Ad.z, Ad.z, Tk.z, 0, 0, ⟨#[]⟩, 0⟩
/-- a packet that is fit for what follows -/
structure Pk.Ok (p : Pk) : Prop where
  sz : p.d.size ≤ 250
  v : p.f.v = p.a.v
  gf : goodA p.f.v p.f.b = true
  ga : goodA p.a.v p.a.b = true
theorem goodA_four {x : ByteArray} (h : x.size = 4) : goodA (adR x).v (adR x).b = true := by
  unfold adR
  rw [dif_pos h]
  have hl := size_toList x
  show goodA false (adOf x) = true
  unfold goodA adOf
  rw [h]
  rw [List.drop_left' (by omega)]; rfl
theorem goodA_six {x : ByteArray} (h : x.size = 16) : goodA (adR x).v (adR x).b = true := by unfold adR; rw [dif_neg (by omega), dif_pos h]; rfl
theorem pk4_ok {s : ByteArray} (hs : s.size ≤ 250) (he : err4 s = 0) : (pk4 s).Ok := by
  have h20 : 20 ≤ s.size := by
    apply Classical.byContradiction; intro h
    unfold err4 at he; rw [if_pos (by omega)] at he; cases he
  unfold pk4
  rw [if_pos he]
  have h1 : (s.extract 12 16).size = 4 := by rw [extract_size (by omega) (by omega)]
  have h2 : (s.extract 16 20).size = 4 := by rw [extract_size (by omega) (by omega)]
  have h3 : (s.extract (n4 s) (a4 s)).size ≤ s.size := by rw [← size_toList, toList_extract, List.length_take, List.length_drop, size_toList]; omega
  exact ⟨by show (s.extract (n4 s) (a4 s)).size ≤ 250; omega, (adR_v4 h1).trans (adR_v4 h2).symm, goodA_four h1, goodA_four h2⟩
theorem pk6_ok {s : ByteArray} (hs : s.size ≤ 250) (he : err6 s = 0) : (pk6 s).Ok := by
  have h40 : 40 ≤ s.size := by
    apply Classical.byContradiction; intro h
    unfold err6 at he; rw [if_pos (by omega)] at he; cases he
  have h1 : (s.extract 8 24).size = 16 := by rw [extract_size (by omega) (by omega)]
  have h2 : (s.extract 24 40).size = 16 := by rw [extract_size (by omega) (by omega)]
  have h3 : (b6 s).size ≤ s.size := by unfold b6; rw [← size_toList, toList_extract, List.length_take, List.length_drop, size_toList]; omega
  have h4 := strip_r (b := b6 s)
  unfold pk6
  rw [if_pos he]
  split
  · exact ⟨by show (strip6 (b6 s)).r.size ≤ 250; omega, (adR_v6 h1).trans (adR_v6 h2).symm, goodA_six h1, goodA_six h2⟩
  · exact ⟨by show (b6 s).size ≤ 250; omega, (adR_v6 h1).trans (adR_v6 h2).symm, goodA_six h1, goodA_six h2⟩
theorem good6_v {T : Tk} (h : good6 T = true) : T.v6 = true := by
  cases hv : T.v6
  · unfold good6 at h; simp [hv] at h
  · rfl
theorem good4_v {T : Tk} (h : good4 T = true) : T.v6 = false := by
  cases hv : T.v6
  · rfl
  · unfold good4 at h; simp [hv] at h
/-! ### what (*heard).say does -/
section
variable {p : Pk} {T : Tk} {e vl : Int}
noncomputable abbrev Pk.H (p : Pk) : List Seg := hdS (adL p.f) (adL p.a) TZ p.pr p.hop p.d p.al
theorem syC_tl (hp : p.Ok) (nF : groupA p.f.v p.f.b = false) (h0 : 0 ≤ vl) (h1 : vl ≤ 4094) (ht : ∀ g, TlC g p.H T true e) (hg : e = 0 → goodT T = true) (hv6 : e = 0 → T.v6 = p.a.v) : SyC p.H vl (tlF T e vl p) := by
  intro g B w0 W H Q hH hQ
  by_cases he : e = 0
  · subst he
    have hr : tlF T 0 vl p = if (p.hop != 1 || (alertT T && !p.al || !(eqA p.a (destA T) && hereA p.f T))) = true then Res.z 2 else ⟨1, vl, p.f, p.a, T, 0, 0, ⟨#[]⟩, 0⟩ := by unfold tlF tailR; rw [if_neg (by simp)]
    generalize tlF T 0 vl p = r at *
    subst hr
    refine say_t (adL_ok p.f) (adL_ok p.a) (ht g) rfl (fun X D w hX => alert_any hX) (fun X D W' hX hD => goodS_any hX hD (hg rfl) h0 h1 hp.gf nF hp.v (hv6 rfl)) hH ?_
    intro W' X D hX hO h'
    have hQ := hQ W' X D
    by_cases hc : (p.hop != 1 || (alertT T && !p.al || !(eqA p.a (destA T) && hereA p.f T))) = true
    · have hc' := hc
      unfold alertT at hc'
      simp only [hc', if_true] at hX ⊢
      simp only [hc, if_true] at hQ
      have := hQ hX hO h'
      simpa [Res.S, Res.z, aZ_is] using this
    · have hc' := hc
      unfold alertT at hc'
      simp only [hc', if_false] at hX ⊢
      simp only [hc, if_false] at hQ
      exact hQ hX hO h'
  · have hr : tlF T e vl p = Res.z e := by unfold tlF tailR; rw [if_pos he]
    rw [hr] at hQ
    refine say_e (adL_ok p.f) (adL_ok p.a) (ht g) (by simpa using he) hH ?_
    intro W' D hO h'
    have := hQ W' TZ D (Lib.hid (TkX.z D)) hO h'
    simpa [Res.S, Res.z, aZ_is] using this
theorem syC_n (ht : ∀ g, TlC g p.H Tk.z false 0) : SyC p.H vl ⟨2, vl, p.f, p.a, Tk.z, p.pr, p.hop, p.d, 0⟩ := fun g B w0 W H Q hH hQ =>
  say_n (adL_ok p.f) (adL_ok p.a) (ht g) hH (fun W' D hO h' => hQ W' TZ D (Lib.hid (TkX.z D)) hO h')
theorem tlC_n (hc : p.a.v = true ∧ ((p.pr == 58) = false ∨ V.isF p.d = false) ∨ p.a.v = false ∧ (p.pr == 2) = false) (g : Nat) : TlC g p.H Tk.z false 0 := fun B w0 W H Q hH hQ =>
  talk_n (adL_ok p.f) (adL_ok p.a) (adL_0 p.a) (fun w => V.vIs_any) rfl rfl hc hH (fun W' h => hQ W' TZ [] (Lib.hid (TkX.z _)) (Lib.hid (fun _ h => absurd h List.not_mem_nil)) (by simpa using h))
end
theorem sayC {p : Pk} {vl : Int} (hp : p.Ok) (nF : groupA p.f.v p.f.b = false) (h0 : 0 ≤ vl) (h1 : vl ≤ 4094) : SyC p.H vl (sayF vl p) := by
  have hs : p.d.size ≤ 100000 := by have := hp.sz; omega
  unfold sayF
  by_cases hm : p.a.v = true ∧ p.pr = 58 ∧ V.isF p.d = true
  · rw [if_pos hm]
    obtain ⟨hv, h58, his⟩ := hm
    have hfv : (p.f.v && p.a.v) = true := by rw [hp.v, hv]; rfl
    have hm : RdC 110 #[.string p.d, .agg (fls [.many (adL p.f) 17]).toArray, .agg (fls [.many (adL p.a) 17]).toArray] (V.rReadF p.f p.a p.d).1 (V.rReadF p.f p.a p.d).2 := rdC_of (fun w => by
      have := V.vread_any (w := w) (f := p.f) (t := p.a) hs
      rwa [V.readF_is hfv] at this)
    refine syC_tl hp nF h0 h1 (fun g B w0 W H Q hH hQ => ?_) (fun he => ?_) (fun he => ?_)
    · have a0 := adL_0 p.a
      rw [hv] at a0
      unfold Pk.H at hH hQ
      rw [h58] at hH hQ
      exact talk_m (adL_ok p.f) (adL_ok p.a) a0 (fun w => by rw [← his]; exact V.vIs_any) hm hH hQ
    · have h6 := V.rReadF_good (f := p.f) (t := p.a) (s := p.d) (by have := hp.sz; omega) he
      unfold goodT
      rw [if_pos (good6_v h6)]; exact h6
    · rw [hv]; exact good6_v (V.rReadF_good (f := p.f) (t := p.a) (s := p.d) (by have := hp.sz; omega) he)
  rw [if_neg hm]
  by_cases hi : p.a.v = false ∧ p.pr = 2
  · rw [if_pos hi]
    obtain ⟨hv, h2⟩ := hi
    have hm : RdC 111 #[.string p.d] (rReadF p.d).1 (rReadF p.d).2 := rdC_of (fun w => by
      have := iread_any (w := w) hs
      rwa [readF_is] at this)
    refine syC_tl hp nF h0 h1 (fun g B w0 W H Q hH hQ => ?_) (fun he => ?_) (fun he => ?_)
    · have a0 := adL_0 p.a
      rw [hv] at a0
      unfold Pk.H at hH hQ
      rw [h2] at hH hQ
      exact talk_i (adL_ok p.f) (adL_ok p.a) a0 hm hH hQ
    · have h4 := rReadF_good (s := p.d) (by have := hp.sz; omega) he
      unfold goodT
      rw [if_neg (by rw [good4_v h4]; decide)]; exact h4
    · rw [hv]; exact good4_v (rReadF_good (s := p.d) (by have := hp.sz; omega) he)
  rw [if_neg hi]
  refine syC_n (fun g => tlC_n ?_ g)
  cases hv : p.a.v
  · exact .inr ⟨rfl, by simp; exact fun h => hi ⟨hv, h⟩⟩
  · refine .inl ⟨rfl, ?_⟩
    by_cases h58 : p.pr = 58
    · right
      cases his : V.isF p.d
      · rfl
      · exact absurd ⟨hv, h58, his⟩ hm
    · left; simpa using h58
end Go.Proofs.YtdnehjhijmeihaaGreat
namespace Go.Proofs.YtdnehjhijmeihaaGreat
-- %in
open Go.ChangeShapes Go.WideShapes Go.ChangeAt Go.RowKit
set_option linter.unusedVariables false
set_option linter.unusedSimpArgs false
set_option maxRecDepth 20000

section
variable {b : ByteArray} {w : World} {p : Pk} {ty vl pr : Int} {tg : Bool} {body : ByteArray}
theorem macX (a : Ad) : ∃ xs : List UInt8, xs.length = 6 ∧ macL a = xs.map byteV ∧ (groupA a.v a.b = true → xs = macB a) := by
  by_cases hg : groupA a.v a.b = true
  · exact ⟨macB a, macB_len a, macL_is hg, fun _ => rfl⟩
  · refine ⟨List.replicate 6 0, rfl, ?_, fun h => absurd h hg⟩
    unfold macL
    rw [if_neg hg]; rfl
theorem fr_out (h14 : 14 ≤ b.size) (ht : ty = 2048 ∨ ty = 34525) (h0 : 0 ≤ vl) (h1 : vl ≤ 4094)
    (f1 : ∀ w, Gives Tryz.prog 16 #[.string b] w (.tuple #[.agg (fls (eS ((pad6 (b.extract 0 6)).map byteV) ((pad6 (b.extract 6 12)).map byteV) tg pr vl ty body)).toArray, .int .i64 0]))
    (f2 : ∀ w, Gives Tryz.prog 17 #[.agg (fls (eS ((pad6 (b.extract 0 6)).map byteV) ((pad6 (b.extract 6 12)).map byteV) tg pr vl ty body)).toArray] w (.tuple #[.agg (fls p.H).toArray, .int .i64 p.e])) (hok : p.e = 0 → p.Ok) :
    Calls Tryz.prog 6 #[.string b] w (FPost w (outF b vl p)) := by
  have l0 : (pad6 (b.extract 0 6)).length = 6 := pad6_len (by have := cut_size2 b 0 6; omega)
  have oM := okA_bytes l0
  have oN := okA_bytes (pad6_len (x := b.extract 6 12) (by have := cut_size2 b 6 12; omega))
  obtain ⟨xs, hx6, hxs, hxg⟩ := macX p.a
  have oX : OkA (macL p.a) 6 := macL_ok
  have f3 : ∀ w, Gives Tryz.prog 18 #[.agg (fls [.many (adL p.a) 17]).toArray] w (.tuple #[.agg (fls [.many (macL p.a) 6]).toArray, .bool (groupA p.a.v p.a.b)]) := fun w => by rw [← rg_segs, fls1]; exact aMac_any
  have f4 : ∀ w, Gives Tryz.prog 19 #[.agg (fls [.many (adL p.f) 17]).toArray] w (.bool (groupA p.f.v p.f.b)) := fun w => by rw [← rg_segs]; exact aGroup_any p.f.h
  have fE : ∀ w, (binOp .neq 40 (.agg (fls [.many (macL p.a) 6]).toArray) (.agg (fls [.many ((pad6 (b.extract 0 6)).map byteV) 6]).toArray)).run Tryz.prog w = .ok (.bool (!(xs == pad6 (b.extract 0 6)))) w := fun w => by
    rw [fls1, fls1, hxs]; exact mac_neq hx6 l0 w
  unfold outF
  by_cases he : p.e ≠ 0
  · rw [if_pos he]
    have := fr_open (w := w) (c1 := true) oM oN (adL_ok _) (adL_ok _) f1 ht f2 (by simpa using he) f3 oX f4 fE (by simp)
    exact FPost.of (by simpa [Res.S, Res.z, aZ_is] using this) rfl
  rw [if_neg he]
  have he0 : p.e = 0 := Classical.not_not.1 he
  rw [he0] at f2
  by_cases hg : groupA p.f.v p.f.b = true
  · rw [if_pos hg]
    rw [hg] at f4
    have := fr_open (w := w) (c1 := false) oM oN (adL_ok _) (adL_ok _) f1 ht f2 (by simp) f3 oX f4 fE (by simp)
    exact FPost.of (by simpa [Res.S, Res.z, aZ_is] using this) rfl
  rw [if_neg hg]
  have hg : groupA p.f.v p.f.b = false := by simpa using hg
  rw [hg] at f4
  by_cases ha : groupA p.a.v p.a.b = false
  · rw [if_pos ha]
    rw [ha] at f3
    have := fr_open (w := w) (c1 := false) oM oN (adL_ok _) (adL_ok _) f1 ht f2 (by simp) f3 oX f4 fE (by simp)
    exact FPost.of (by simpa [Res.S, Res.z, aZ_is] using this) rfl
  rw [if_neg ha]
  have ha : groupA p.a.v p.a.b = true := by simpa using ha
  rw [ha] at f3
  obtain rfl := hxg ha
  by_cases hm : ∃ j, j < 6 ∧ mN p.a j ≠ by4 b j
  · rw [if_pos hm]
    rw [show (!(macB p.a == pad6 (b.extract 0 6))) = true by rw [mac_ne h14]; simp only [decide_eq_true_eq]; exact hm] at fE
    have := fr_open (w := w) (c1 := false) oM oN (adL_ok _) (adL_ok _) f1 ht f2 (by simp) f3 oX f4 fE (by simp)
    exact FPost.of (by simpa [Res.S, Res.z, aZ_is] using this) rfl
  rw [if_neg hm]
  rw [show (!(macB p.a == pad6 (b.extract 0 6))) = false by rw [mac_ne h14]; simp only [decide_eq_false_iff_not]; exact hm] at fE
  exact fr_say oM oN (adL_ok _) (adL_ok _) f1 ht f2 f3 oX f4 fE (sayC (hok he0) hg h0 h1)
theorem erE_14 (h : erE b = 0) : 14 ≤ b.size := by
  apply Classical.byContradiction; intro h1
  unfold erE at h; rw [if_pos (by omega)] at h; cases h
theorem vlE_le (h : erE b = 0) : vlE b ≤ 4094 := by
  have h14 := erE_14 h
  unfold erE at h
  unfold vlE
  rw [if_neg (by omega)] at h
  split
  · rename_i ht
    rw [if_pos ht] at h
    by_cases h8 : b.size < 18
    · rw [if_pos h8] at h; cases h
    · rw [if_neg h8] at h
      by_cases hc : numAt b 14 2 / 4096 % 2 = 1 ∨ numAt b 14 2 % 4096 = 4095 ∨ numAt b 16 2 < 1536 ∨ numAt b 16 2 = 33024
      · rw [if_pos hc] at h; cases h
      · omega
  · omega
theorem bdE_le (hs : b.size ≤ 250) : (bdE b).size ≤ 250 := by
  unfold bdE
  rw [← size_toList, toList_extract, List.length_take, List.length_drop, size_toList]; omega
theorem fread_any (hs : b.size ≤ 250) : Calls Tryz.prog 6 #[.string b] w (FPost w (resF b)) := by
  obtain ⟨pr, f1⟩ := eRead_any hs
  have hbd := bdE_le hs
  unfold resF
  by_cases he : erE b ≠ 0
  · rw [if_pos he]
    have := fr_err (w := w) (b := b) (e := erE b) (fun w => by have := f1 w; unfold eX at this; rwa [if_neg he] at this) (by simpa using he)
    exact FPost.of (by simpa [Res.S, Res.z, aZ_is] using this) rfl
  rw [if_neg he]
  have he0 : erE b = 0 := Classical.not_not.1 he
  unfold eX at f1
  rw [if_pos he0, he0] at f1
  have hv := vlE_le he0
  have h14 := erE_14 he0
  have oM := okA_bytes (pad6_len (x := b.extract 0 6) (by have := cut_size2 b 0 6; omega))
  have oN := okA_bytes (pad6_len (x := b.extract 6 12) (by have := cut_size2 b 6 12; omega))
  by_cases h4 : tyE b = 2048
  · rw [if_pos h4]
    rw [h4] at f1
    obtain ⟨tos, id, hp⟩ := p4X_is (bdE b)
    refine fr_out h14 (.inl rfl) (by omega) (by omega) f1 (fun w => open4 (adL_ok _) (adL_ok _) oM oN (tos := tos) (id := id) (fun w => ?_)) (fun h => pk4_ok hbd (by rw [← pk4_e]; exact h))
    rw [← hp, pk4_e]; exact Read4_any hbd
  rw [if_neg h4]
  by_cases h6 : tyE b = 34525
  · rw [if_pos h6]
    rw [h6] at f1
    obtain ⟨cl, fl, g6⟩ := Read6_any hbd
    obtain ⟨c1, c2, hp⟩ := p6X_is (bdE b) cl fl
    refine fr_out h14 (.inr rfl) (by omega) (by omega) f1 (fun w => open6 (adL_ok _) (adL_ok _) oM oN (tos := c1) (id := c2) (fun w => ?_)) (fun h => pk6_ok hbd (by rw [← pk6_e]; exact h))
    rw [← hp, pk6_e]; exact g6 w
  rw [if_neg h6]
  have := fr_other (w := w) oM oN f1 (by simp; omega) (by simp; omega)
  exact FPost.of (by simpa [Res.S, aZ_is] using this) rfl
end
end Go.Proofs.YtdnehjhijmeihaaGreat
namespace Go.Proofs.YtdnehjhijmeihaaGreat
-- %in
open Go.ChangeShapes Go.WideShapes Go.ChangeAt Go.RowKit
set_option linter.unusedVariables false
set_option linter.unusedSimpArgs false
set_option maxRecDepth 20000

section
variable {b : ByteArray} {w : World} {p : Pk} {vl K12 : Int} {Wd : Nat} {tg : Bool} {body : ByteArray}
theorem FPost.ofG {f : FuncId} {args : Array Value} {r : Res} (h : Gives Tryz.prog f args w (.tuple #[.agg (fls (r.S TZ)).toArray, .int .i64 r.e])) (ht : r.t = Tk.z) : Calls Tryz.prog f args w (FPost w r) :=
  h.to.mono fun _ _ ⟨he, hb⟩ => ⟨TZ, [], he, ⟨(Hp.refl w).keep hb, fun _ h => absurd h (List.not_mem_nil)⟩, by rw [ht]; exact TkX.z []⟩
theorem tagC (hs : b.size ≤ 250) (he : erE b = 0) : TagC b (tgE b) (numAt b 12 2 : Int) (numL (b.extract 14 16).data.toList) (tyE b : Int) (vlE b : Int) := by
  have h14 := erE_14 he
  have hk : (if tgE b then 18 else 14) ≤ b.size := by
    unfold erE at he
    rw [if_neg (by omega)] at he
    split
    · rename_i ht
      rw [if_pos ht] at he
      apply Classical.byContradiction; intro h
      rw [if_pos (by omega)] at he; cases he
    · omega
  have hl : numL (b.extract 14 16).data.toList < 65536 := by
    have h1 := numL_lt (b.extract 14 16).data.toList
    rw [size_toList] at h1
    exact Nat.lt_of_lt_of_le h1 (Nat.pow_le_pow_right (n := 256) (by omega) (by have := cut_size2 b 14 16; omega))
  have n1 := num2_lt b 12
  have n2 := num2_lt b 16
  refine ⟨fun w => by have := rWhy_any (w := w) hs; rwa [he] at this, rnum_at 12 2 (by omega) (by omega), fun w => rnum_any (by have := cut_size2 b 14 16; omega), ?_, hl, ?_, by omega, hs, hk, ?_, ?_, ?_⟩
  · unfold tyE
    cases ht : tgE b
    · exact rnum_at 12 2 (by omega) (by omega)
    · rw [ht] at hk; exact rnum_at 16 2 (by simpa using hk) (by omega)
  · unfold tyE; split <;> omega
  · unfold tgE; rw [Bool.eq_iff_iff]; simp; omega
  · intro h; unfold tyE; rw [h]; rfl
  · unfold vlE
    cases ht : tgE b
    · rfl
    · simp only [if_true]
      rw [show numL (b.extract 14 16).data.toList = numAt b 14 2 from numX_at b 14 2]
theorem rsay (hp : p.Ok) (nF : groupA p.f.v p.f.b = false) (h0 : 0 ≤ vl) (h1 : vl ≤ 4094) : OutC b p.d p.f p.a p.pr p.hop vl p.al (V.isF p.d) (sayF vl p) := by
  have hs : p.d.size ≤ 100000 := by have := hp.sz; omega
  have hs4 : p.d.size ≤ 1400 := by have := hp.sz; omega
  by_cases hm : p.a.v = true ∧ p.pr = 58 ∧ V.isF p.d = true
  · have hr : sayF vl p = tlF (V.rReadF p.f p.a p.d).1 (V.rReadF p.f p.a p.d).2 vl p := by unfold sayF; rw [if_pos hm]
    rw [hr]
    obtain ⟨hv, h58, his⟩ := hm
    have hg6 : (V.rReadF p.f p.a p.d).2 = 0 → good6 (V.rReadF p.f p.a p.d).1 = true := fun he => V.rReadF_good (f := p.f) (t := p.a) (s := p.d) hs4 he
    refine .inr ⟨(V.rReadF p.f p.a p.d).1, (V.rReadF p.f p.a p.d).2, _, _, .inl ⟨hv, h58, his, fun he => good6_v (hg6 he), rdC_of fun w => V.rread_any hs⟩, rfl, fun he B w0 X D W' hX hD => ?_, rfl⟩
    have h6 := hg6 he
    have hg : goodT (V.rReadF p.f p.a p.d).1 = true := by unfold goodT; rw [if_pos (good6_v h6)]; exact h6
    exact rgoodS_any (goodT_ok hg) hX.out hD hg h0 h1 hp.gf hp.ga nF hp.v ((good6_v h6).trans hv.symm)
  by_cases hi : p.a.v = false ∧ p.pr = 2
  · have hr : sayF vl p = tlF (rReadF p.d).1 (rReadF p.d).2 vl p := by unfold sayF; rw [if_neg hm, if_pos hi]
    rw [hr]
    obtain ⟨hv, h2⟩ := hi
    have hg4 : (rReadF p.d).2 = 0 → good4 (rReadF p.d).1 = true := fun he => rReadF_good (s := p.d) hs4 he
    refine .inr ⟨(rReadF p.d).1, (rReadF p.d).2, _, _, .inr ⟨hv, h2, fun he => good4_v (hg4 he), rdC_of fun w => rread_any hs⟩, rfl, fun he B w0 X D W' hX hD => ?_, rfl⟩
    have h4 := hg4 he
    have hg : goodT (rReadF p.d).1 = true := by unfold goodT; rw [if_neg (by rw [good4_v h4]; decide)]; exact h4
    exact rgoodS_any (goodT_ok hg) hX.out hD hg h0 h1 hp.gf hp.ga nF hp.v ((good4_v h4).trans hv.symm)
  have hr : sayF vl p = ⟨2, vl, p.f, p.a, Tk.z, p.pr, p.hop, p.d, 0⟩ := by unfold sayF; rw [if_neg hm, if_neg hi]
  rw [hr]
  refine .inl ⟨?_, rfl⟩
  cases hv : p.a.v
  · exact .inr ⟨rfl, by simp; exact fun h => hi ⟨hv, h⟩⟩
  · refine .inl ⟨rfl, ?_⟩
    by_cases h58 : p.pr = 58
    · right
      cases his : V.isF p.d
      · rfl
      · exact absurd ⟨hv, h58, his⟩ hm
    · left; simpa using h58
theorem rr_out {ty : Int} (t : TagC b tg K12 Wd ty vl) (hb : b.extract (if tg then 18 else 14) b.size = body) (hi : IpC ty body p.f p.a p.pr p.hop p.d p.al p.e) (hok : p.e = 0 → p.Ok) (hav : p.e = 0 → p.a.v = decide (ty = 34525)) (h0 : 0 ≤ vl) (h1 : vl ≤ 4094) : Calls Tryz.prog 7 #[.string b] w (FPost w (outF b vl p)) := by
  have fG : ∀ w, Gives Tryz.prog 25 #[.agg (fls [.many (adL p.f) 17]).toArray] w (.bool (groupA p.f.v p.f.b)) := fun w => by rw [← rg_segs]; exact raGroup_any p.f.h
  have fA : ∀ w, Gives Tryz.prog 25 #[.agg (fls [.many (adL p.a) 17]).toArray] w (.bool (groupA p.a.v p.a.b)) := fun w => by rw [← rg_segs]; exact raGroup_any p.a.h
  unfold outF
  by_cases he : p.e ≠ 0
  · rw [if_pos he]
    have := rr_open (w := w) (c1 := true) t hb hi (by simpa using he) fG fA (by simp)
    exact FPost.ofG (by simpa [Res.S, Res.z, aZ_is] using this) rfl
  rw [if_neg he]
  have he0 : p.e = 0 := Classical.not_not.1 he
  rw [he0] at hi
  by_cases hg : groupA p.f.v p.f.b = true
  · rw [if_pos hg]
    rw [hg] at fG
    have := rr_open (w := w) (c1 := false) t hb hi (by simp) fG fA (by simp)
    exact FPost.ofG (by simpa [Res.S, Res.z, aZ_is] using this) rfl
  rw [if_neg hg]
  have hg : groupA p.f.v p.f.b = false := by simpa using hg
  rw [hg] at fG
  by_cases ha : groupA p.a.v p.a.b = false
  · rw [if_pos ha]
    rw [ha] at fA
    have := rr_open (w := w) (c1 := false) t hb hi (by simp) fG fA (by simp)
    exact FPost.ofG (by simpa [Res.S, Res.z, aZ_is] using this) rfl
  rw [if_neg ha]
  have ha : groupA p.a.v p.a.b = true := by simpa using ha
  rw [ha] at fA
  have fM : ∀ w, Gives Tryz.prog 26 #[.agg (fls [.many (adL p.a) 17]).toArray] w (.tuple #[.agg (fls [.many (macL p.a) 6]).toArray, .bool true]) := fun w => by rw [← rg_segs, fls1]; exact raMac_any ha
  have is : ∀ w, Gives Tryz.prog 27 #[.string p.d] w (.bool (V.isF p.d)) := fun w => ris_any
  refine rr_say t hb hi (hav he0) fG fA ha fM is ?_
  by_cases hm : ∃ j, j < 6 ∧ mN p.a j ≠ by4 b j
  · rw [if_pos hm]; exact .inl ⟨hm, rfl⟩
  · rw [if_neg hm]
    exact .inr ⟨fun j hj => Classical.byContradiction fun h => hm ⟨j, hj, h⟩, rsay (hok he0) hg h0 h1⟩
theorem pk4_v {s : ByteArray} (he : err4 s = 0) : (pk4 s).a.v = false := by
  have h20 : 20 ≤ s.size := by
    apply Classical.byContradiction; intro h
    unfold err4 at he; rw [if_pos (by omega)] at he; cases he
  unfold pk4
  rw [if_pos he]
  exact adR_v4 (x := s.extract 16 20) (by rw [extract_size (by omega) (by omega)])
theorem pk6_v {s : ByteArray} (he : err6 s = 0) : (pk6 s).a.v = true := by
  have h40 : 40 ≤ s.size := by
    apply Classical.byContradiction; intro h
    unfold err6 at he; rw [if_pos (by omega)] at he; cases he
  have h2 : (s.extract 24 40).size = 16 := by rw [extract_size (by omega) (by omega)]
  unfold pk6
  rw [if_pos he]
  split <;> exact adR_v6 h2
theorem rfread_any (hs : b.size ≤ 250) : Calls Tryz.prog 7 #[.string b] w (FPost w (resF b)) := by
  have hbd := bdE_le hs
  unfold resF
  by_cases he : erE b ≠ 0
  · rw [if_pos he]
    have := rr_err (w := w) (b := b) (e := erE b) (fun w => rWhy_any hs) (by simpa using he)
    exact FPost.ofG (by simpa [Res.S, Res.z, aZ_is] using this) rfl
  rw [if_neg he]
  have he0 : erE b = 0 := Classical.not_not.1 he
  have t := tagC hs he0
  have hv := vlE_le he0
  by_cases h4 : tyE b = 2048
  · rw [if_pos h4]
    rw [h4] at t
    obtain ⟨tos, id, hp⟩ := p4X_is (bdE b)
    refine rr_out t rfl (.inl ⟨rfl, tos, id, fun w => ?_⟩) (fun h => pk4_ok hbd (by rw [← pk4_e]; exact h)) (fun h => ?_) (by omega) (by omega)
    · rw [← hp, pk4_e]; exact rRead4_any hbd
    · rw [pk4_v (by rw [← pk4_e]; exact h)]; rfl
  rw [if_neg h4]
  by_cases h6 : tyE b = 34525
  · rw [if_pos h6]
    rw [h6] at t
    obtain ⟨cl, fl, g6⟩ := rRead6_any hbd
    obtain ⟨c1, c2, hp⟩ := p6X_is (bdE b) cl fl
    refine rr_out t rfl (.inr ⟨rfl, c1, c2, fun w => ?_⟩) (fun h => pk6_ok hbd (by rw [← pk6_e]; exact h)) (fun h => ?_) (by omega) (by omega)
    · rw [← hp, pk6_e]; exact g6 w
    · rw [pk6_v (by rw [← pk6_e]; exact h)]; rfl
  rw [if_neg h6]
  have := rr_other (w := w) t (by simp; omega) (by simp; omega)
  exact FPost.ofG (by simpa [Res.S, aZ_is] using this) rfl
end
end Go.Proofs.YtdnehjhijmeihaaGreat
namespace Go.Proofs.YtdnehjhijmeihaaGreat
-- %in
open Go.ChangeShapes Go.WideShapes Go.ChangeAt Go.RowKit
set_option linter.unusedVariables false
set_option linter.unusedSimpArgs false
set_option maxRecDepth 20000
attribute [local irreducible] wpList

def aG : Ad := ⟨false, [239, 1, 2, 3, 0, 0, 0, 0, 0, 0, 0, 0, 0, 0, 0, 0], rfl⟩
def aF : Ad := ⟨false, [10, 0, 0, 1, 0, 0, 0, 0, 0, 0, 0, 0, 0, 0, 0, 0], rfl⟩
def tk0 : Tk := ⟨false, 2, 2, 0, aG, false, 0, 0, [], []⟩
def igB : List UInt8 := [22, 0, 248, 250, 239, 1, 2, 3]
def ipH : List UInt8 := [70, 0, 0, 32, 0, 0, 0, 0, 1, 2]
def ipT : List UInt8 := [10, 0, 0, 1, 239, 1, 2, 3, 148, 4, 0, 0]
def ipB : List UInt8 := ipH ++ [41, 211] ++ ipT ++ igB
def frB : List UInt8 := [1, 0, 94, 1, 2, 3, 2, 0, 0, 0, 0, 0, 129, 0, 0, 5, 8, 0] ++ ipB
theorem wnK8 {k : Nat} (h : k ≤ 8) : wn (k : Int) 8 = k := by unfold wn within; split; omega; split <;> omega
section
variable {w : World}
theorem oPut {n k : Nat} (hn : n < 18446744073709551616) (hk : k ≤ 8) : Gives Tryz.prog 140 #[.int .u64 (n : Int), .int .i64 (k : Int)] w (.string (str (putL n k))) := by
  have := Put_any (n := n) (wide := (k : Int)) (w := w) hn
  rwa [wnK8 hk] at this
theorem iPut {n k : Nat} (hn : n < 9223372036854775808) (hk : k ≤ 8) : Gives Tryz.prog 135 #[.int .i64 (n : Int), .int .i64 (k : Int)] w (.string (str (putL n k))) := by
  have f : ∀ w, Gives Tryz.prog 140 #[.int .u64 (n : Int), .int .i64 (k : Int)] w (.string (str (putL n k))) := fun w => oPut (by omega) hk
  refine Gives.of ?_
  generalize str (putL n k) = r at *
  have hH := Hp.refl w
  go_enter Tryz.func135, Tryz.ntmps135
  go_wp2_with (first | (refine st ?_; clear hH; (first | intro W g hH | intro W hH)))
  go_ret
  exact ⟨rfl, hH.below⟩
theorem pPut {n k : Nat} (hn : n < 9223372036854775808) (hk : k ≤ 8) : Gives Tryz.prog 137 #[.int .i64 (n : Int), .int .i64 (k : Int)] w (.string (str (putL n k))) := by
  have f : ∀ w, Gives Tryz.prog 140 #[.int .u64 (n : Int), .int .i64 (k : Int)] w (.string (str (putL n k))) := fun w => oPut (by omega) hk
  refine Gives.of ?_
  generalize str (putL n k) = r at *
  have hH := Hp.refl w
  go_enter Tryz.func137, Tryz.ntmps137
  go_wp2_with (first | (refine st ?_; clear hH; (first | intro W g hH | intro W hH)))
  go_ret
  exact ⟨rfl, hH.below⟩
theorem eTwo {n : Nat} (hn : n < 9223372036854775808) : Gives Tryz.prog 83 #[.int .i64 (n : Int)] w (.string (str (putL n 2))) := by
  have f : ∀ w, Gives Tryz.prog 140 #[.int .u64 (n : Int), .int .i64 2] w (.string (str (putL n 2))) := fun w => oPut (k := 2) (by omega) (by omega)
  refine Gives.of ?_
  generalize str (putL n 2) = r at *
  have hH := Hp.refl w
  go_enter Tryz.func83, Tryz.ntmps83
  go_wp2_with (first | (refine st ?_; clear hH; (first | intro W g hH | intro W hH)))
  go_ret
  exact ⟨rfl, hH.below⟩
theorem aBytes4 {a : Ad} : Gives Tryz.prog 132 #[.agg (fls [.many (adL a) 17]).toArray] w (.string (str (bytesA a.v a.b))) := by
  unfold adL; rw [addr_segs1]; exact aBytes_any a.h
theorem good_tk0 : good4 tk0 = true := by kernel_rfl
theorem tkS0 : fls (tkS tk0 none 0 none 0) = fls [.one (.bool false), .one (.int .i64 2), .one (.int .i64 2), .one (.int .i64 0), .many (adL aG) 17, .one (.bool false), .one (.int .i64 0), .one (.int .i64 0), .one (.slice none 0 0), .one (.slice none 0 0)] := rfl
theorem body0 : Gives Tryz.prog 134 #[.agg (fls (tkS tk0 none 0 none 0)).toArray] w (.tuple #[.int .i64 22, .int .i64 0, .string (str [239, 1, 2, 3])]) := by
  refine Gives.of ?_
  have oG := adL_ok aG
  have f : ∀ w, Gives Tryz.prog 132 #[.agg (fls [.many (adL aG) 17]).toArray] w (.string (str [239, 1, 2, 3])) := fun w => aBytes4 (a := aG)
  rw [tkS0]
  generalize adL aG = Y at *
  have hH := Hp.refl w
  go_enter Tryz.func134, Tryz.ntmps134
  go_wp2_with (first | (refine st ?_; clear hH; (first | intro W g hH | intro W hH)))
  go_ret3
  exact ⟨rfl, hH.below⟩
theorem chk0 : ∀ w g c, Row w g 9 (fls [.one (.string (str [22, 0])), .one (.string (str [239, 1, 2, 3]))]).toArray → Gives Tryz.prog 128 #[.slice (some ⟨g, 0, none⟩) 2 c] w (.int .i64 63738) := fun w g c hr => by
  have := Check_row (c := c) (ss := [str [22, 0], str [239, 1, 2, 3]]) (m := 2) rfl (small2 (by decide) (by decide)) (w := w) (g := g) (by simpa [fls] using hr)
  have e : ((65535 - foldN (wsum (flat [str [22, 0], str [239, 1, 2, 3]])) : Nat) : Int) = 63738 := by decide +kernel
  rw [e] at this
  exact this
end
section
variable {w : World}
theorem igWrite0 : Gives Tryz.prog 80 #[.agg (fls (tkS tk0 none 0 none 0)).toArray] w (.tuple #[.string (str igB), .int .i64 0]) := by
  refine Gives.of ?_
  have fg : ∀ w, Gives Tryz.prog 133 #[.agg (fls (tkS tk0 none 0 none 0)).toArray] w (.bool true) := fun w => by
    have := igood_any (w := w) (T := tk0) (sp := none) (rp := none) (sc := 0) (rc := 0) AdsAt.nil RcsAt.nil
    rwa [good_tk0] at this
  have fb : ∀ w, Gives Tryz.prog 134 #[.agg (fls (tkS tk0 none 0 none 0)).toArray] w (.tuple #[.int .i64 22, .int .i64 0, .string (str [239, 1, 2, 3])]) := fun w => body0
  have p1 : ∀ w, Gives Tryz.prog 135 #[.int .i64 22, .int .i64 1] w (.string (str [22])) := fun w => iPut (n := 22) (k := 1) (by omega) (by omega)
  have p2 : ∀ w, Gives Tryz.prog 135 #[.int .i64 0, .int .i64 1] w (.string (str [0])) := fun w => iPut (n := 0) (k := 1) (by omega) (by omega)
  have p3 : ∀ w, Gives Tryz.prog 135 #[.int .i64 63738, .int .i64 2] w (.string (str [248, 250])) := fun w => iPut (n := 63738) (k := 2) (by omega) (by omega)
  have e1 : str [22] ++ str [0] = str [22, 0] := str_append _ _
  have e2 : str [22, 0] ++ str [248, 250] ++ str [239, 1, 2, 3] = str igB := by rw [str_append, str_append]; rfl
  have hck := Lib.hid chk0
  have oG := adL_ok aG
  rw [tkS0] at *
  generalize adL aG = Y at *
  have E1 := Lib.hid e1
  have E2 := Lib.hid e2
  have hH := Hp.refl w
  go_enter Tryz.func80, Tryz.ntmps80
  go_wp2_with (first | ((go_at_call 128; refine callR 0 hH rfl (fun hr => hck.out _ _ _ hr) ?_; (clear hH; (first | intro W g hH | intro W hH); (try simp only [Act.put, pA, pB, pC])))) | (refine st ?_; clear hH; (first | intro W g hH | intro W hH)))
  go_ret2
  exact ⟨congrArg (fun x => Ending.returned (Value.tuple #[.string x, .int .i64 0])) E2.out, hH.below⟩
end
section
variable {w : World}
theorem in_any {k : Nat} (hk : k = 8 ∨ k = 16) {l : List Nat} {g c : Nat} (hl : l.length ≤ 10) (hb : ∀ n ∈ l, n < 256) (h : ∀ j (hj : j < l.length), OldC w ⟨g, j, none⟩ (.int .i64 (l[j] : Int))) : Gives Tryz.prog 185 #[.int .u64 (k : Int), .slice (some ⟨g, 0, none⟩) l.length c] w (.bool true) := by
  refine Gives.of ?_
  have HC := Lib.hid h
  have HB := Lib.hid hb
  clear h hb
  have hH := Hp.refl w
  rcases hk with rfl | rfl
  all_goals
    go_enter Tryz.func185, Tryz.ntmps185
    go_wp2_with (first | (refine st ?_; clear hH; (first | intro W g hH | intro W hH)))
    go_loopw [9] (fun i wr => ∃ j : Nat, i = .int .i64 (j : Int) ∧ j ≤ l.length ∧ Hp w.heap.size w wr []) (fun i _ => l.length - (intOf i).toNat)
    case atStart => exact ⟨0, rfl, by omega, hH⟩
    case round =>
      clear hH
      obtain ⟨j, rfl, hj, hH⟩ := hrel
      by_cases hjl : j < l.length
      · have dj : decide (j < l.length) = true := decide_eq_true hjl
        have fC := HC.out j hjl
        have hn := HB.out _ (List.getElem_mem hjl)
        generalize l[j] = n at *
        have d1 : decide ((n : Int) < 0) = false := decide_eq_false (by omega)
        have d2 : ((n : Int) / 256 != 0) = false := by simp; omega
        have d3 : ((n : Int) / 65536 != 0) = false := by simp; omega
        go_wp2_with (first | ((refine gL rfl ?_; refine hLo tab_ok rfl ?_ rfl hH rfl rfl ?_; (focus (first | exact wN rfl | exact rfl)); refine ⟨_, fC, ?_⟩; (clear hH; (first | intro W g hH | intro W hH); (try simp only [Act.put, pA, pB, pC])))) | (refine st ?_; clear hH; (first | intro W g hH | intro W hH)))
        exact ⟨⟨j + 1, by simp, by omega, hH⟩, by simp [intOf]; omega⟩
      · obtain rfl : j = l.length := by omega
        have dj : decide (l.length < l.length) = false := decide_eq_false hjl
        go_wp2_with (first | (refine st ?_; clear hH; (first | intro W g hH | intro W hH)))
        go_ret
        exact ⟨rfl, hH.below⟩
theorem oldc_row {g : Nat} {t : TypeId} {l : List Value} (hr : Row w g t l.toArray) {j : Nat} {v : Value} (hj : l[j]? = some v) : OldC w ⟨g, j, none⟩ v :=
  ⟨by rw [hr.cell, List.getElem?_toArray, hj], hr.lt⟩
theorem in3 {g c : Nat} {t : TypeId} (hr : Row w g t (fls [.one (.int .i64 0), .one (.int .i64 1), .one (.int .i64 2)]).toArray) : Gives Tryz.prog 185 #[.int .u64 8, .slice (some ⟨g, 0, none⟩) 3 c] w (.bool true) :=
  in_any (k := 8) (.inl rfl) (l := [0, 1, 2]) (by decide) (by decide) (fun j hj => by
    have : j = 0 ∨ j = 1 ∨ j = 2 := by simp at hj; omega
    rcases this with rfl | rfl | rfl <;> exact oldc_row hr rfl)
theorem in1 {g c : Nat} {t : TypeId} (hr : Row w g t (fls [.one (.int .i64 0)]).toArray) : Gives Tryz.prog 185 #[.int .u64 16, .slice (some ⟨g, 0, none⟩) 1 c] w (.bool true) :=
  in_any (k := 16) (.inr rfl) (l := [0]) (by decide) (by decide) (fun j hj => by
    obtain rfl : j = 0 := by simp at hj; omega
    exact oldc_row hr rfl)
theorem four0 {a : Ad} (hv : a.v = false) (hg : goodA a.v a.b = true) : Gives Tryz.prog 184 #[.agg (fls [.many (adL a) 17]).toArray] w (.bool true) := by
  refine Gives.of ?_
  have oA := adL_ok a
  have zA := adL_0 a
  rw [hv] at zA
  have f : ∀ w, Gives Tryz.prog 71 #[.agg (fls [.many (adL a) 17]).toArray] w (.bool true) := fun w => by
    have := aGood_any (v := a.v) (l := a.b) (w := w) a.h
    rw [hg, ← addr_segs1] at this
    exact this
  generalize adL a = A at *
  have hH := Hp.refl w
  go_enter Tryz.func184, Tryz.ntmps184
  go_wp2_with (first | (refine st ?_; clear hH; (first | intro W g hH | intro W hH)))
  go_ret
  exact ⟨rfl, hH.below⟩
def p0S (A F : List Value) : List Seg := [.one (.int .i64 0), .one (.int .i64 0), .one (.int .i64 1), .one (.int .i64 2), .many F 17, .many A 17, .one (.bool true), .one (.string (str igB))]
theorem ipGood0 : Gives Tryz.prog 136 #[.agg (fls (p0S (adL aG) (adL aF))).toArray] w (.bool true) := by
  refine Gives.of ?_
  have oG := adL_ok aG
  have oF := adL_ok aF
  have f1 : ∀ w, Gives Tryz.prog 184 #[.agg (fls [.many (adL aF) 17]).toArray] w (.bool true) := fun w => four0 rfl (by decide)
  have f2 : ∀ w, Gives Tryz.prog 184 #[.agg (fls [.many (adL aG) 17]).toArray] w (.bool true) := fun w => four0 rfl (by decide)
  have hs : (str igB).size = 8 := rfl
  have H3 := Lib.hid (fun W g c t hr => in3 (w := W) (g := g) (c := c) (t := t) hr)
  have H1 := Lib.hid (fun W g c t hr => in1 (w := W) (g := g) (c := c) (t := t) hr)
  unfold p0S
  generalize str igB = b at *
  generalize adL aG = A at *
  generalize adL aF = F at *
  have hH := Hp.refl w
  go_enter Tryz.func136, Tryz.ntmps136
  go_wp2_with (first | ((go_at_call 185; refine callR 0 hH rfl (fun hr => by first | exact H3.out _ _ _ _ hr | exact H1.out _ _ _ _ hr) ?_; (clear hH; (first | intro W g hH | intro W hH); (try simp only [Act.put, pA, pB, pC])))) | (refine st ?_; clear hH; (first | intro W g hH | intro W hH)))
  go_ret
  exact ⟨rfl, hH.below⟩
end
section
variable {w : World} {A F : List Value}
theorem ipHead0 (oA : OkA A 17) (oF : OkA F 17) : Gives Tryz.prog 138 #[.agg (fls (p0S A F)).toArray] w (.int .i64 24) := by
  refine Gives.of ?_
  unfold p0S
  generalize str igB = b at *
  have hH := Hp.refl w
  go_enter Tryz.func138, Tryz.ntmps138
  go_wp2_with (first | (refine st ?_; clear hH; (first | intro W g hH | intro W hH)))
  go_ret
  exact ⟨rfl, hH.below⟩
theorem ipSize0 (oA : OkA A 17) (oF : OkA F 17) : Gives Tryz.prog 139 #[.agg (fls (p0S A F)).toArray] w (.int .i64 32) := by
  refine Gives.of ?_
  have f : ∀ w, Gives Tryz.prog 138 #[.agg (fls (p0S A F)).toArray] w (.int .i64 24) := fun w => ipHead0 oA oF
  have hs : (str igB).size = 8 := rfl
  unfold p0S at *
  generalize str igB = b at *
  have hH := Hp.refl w
  go_enter Tryz.func139, Tryz.ntmps139
  go_wp2_with (first | (refine st ?_; clear hH; (first | intro W g hH | intro W hH)))
  (refine rq ?_; clear hH; intro W hH)
  go_wp2_with (first | (refine st ?_; clear hH; (first | intro W g hH | intro W hH)))
  go_ret
  exact ⟨rfl, hH.below⟩
def ipS1 : ByteArray := str [70] ++ str [0] ++ str [0, 32] ++ str [0, 0] ++ str [0, 0] ++ str [1] ++ str [2]
def ipS2 : ByteArray := str [10, 0, 0, 1] ++ str [239, 1, 2, 3] ++ ⟨#[148, 4, 0, 0]⟩
theorem ipS1_eq : ipS1 = str ipH := by unfold ipS1; simp only [str_append]; rfl
theorem ipS2_eq : ipS2 = str ipT := by show str [10, 0, 0, 1] ++ str [239, 1, 2, 3] ++ str [148, 4, 0, 0] = _; simp only [str_append]; rfl
theorem chk1 : ∀ w g c, Row w g 9 (fls [.one (.string ipS1), .one (.string ipS2)]).toArray → Gives Tryz.prog 128 #[.slice (some ⟨g, 0, none⟩) 2 c] w (.int .i64 10707) := fun w g c hr => by
  rw [ipS1_eq, ipS2_eq] at hr
  have := Check_row (c := c) (ss := [str ipH, str ipT]) (m := 2) rfl (small2 (by decide) (by decide)) (w := w) (g := g) (by simpa [fls] using hr)
  have e : ((65535 - foldN (wsum (flat [str ipH, str ipT])) : Nat) : Int) = 10707 := by decide +kernel
  rw [e] at this
  exact this
theorem ipWrite0 : Gives Tryz.prog 81 #[.agg (fls (p0S (adL aG) (adL aF))).toArray] w (.tuple #[.string (str ipB), .int .i64 0]) := by
  refine Gives.of ?_
  have oG := adL_ok aG
  have oF := adL_ok aF
  have fg : ∀ w, Gives Tryz.prog 136 #[.agg (fls (p0S (adL aG) (adL aF))).toArray] w (.bool true) := fun w => ipGood0
  have fh : ∀ w, Gives Tryz.prog 138 #[.agg (fls (p0S (adL aG) (adL aF))).toArray] w (.int .i64 24) := fun w => ipHead0 oG oF
  have fs : ∀ w, Gives Tryz.prog 139 #[.agg (fls (p0S (adL aG) (adL aF))).toArray] w (.int .i64 32) := fun w => ipSize0 oG oF
  have fG : ∀ w, Gives Tryz.prog 132 #[.agg (fls [.many (adL aG) 17]).toArray] w (.string (str [239, 1, 2, 3])) := fun w => aBytes4 (a := aG)
  have fF : ∀ w, Gives Tryz.prog 132 #[.agg (fls [.many (adL aF) 17]).toArray] w (.string (str [10, 0, 0, 1])) := fun w => aBytes4 (a := aF)
  have p1 : ∀ w, Gives Tryz.prog 137 #[.int .i64 70, .int .i64 1] w (.string (str [70])) := fun w => pPut (n := 70) (k := 1) (by omega) (by omega)
  have p2 : ∀ w, Gives Tryz.prog 137 #[.int .i64 0, .int .i64 1] w (.string (str [0])) := fun w => pPut (n := 0) (k := 1) (by omega) (by omega)
  have p3 : ∀ w, Gives Tryz.prog 137 #[.int .i64 32, .int .i64 2] w (.string (str [0, 32])) := fun w => pPut (n := 32) (k := 2) (by omega) (by omega)
  have p4 : ∀ w, Gives Tryz.prog 137 #[.int .i64 0, .int .i64 2] w (.string (str [0, 0])) := fun w => pPut (n := 0) (k := 2) (by omega) (by omega)
  have p5 : ∀ w, Gives Tryz.prog 137 #[.int .i64 1, .int .i64 1] w (.string (str [1])) := fun w => pPut (n := 1) (k := 1) (by omega) (by omega)
  have p6 : ∀ w, Gives Tryz.prog 137 #[.int .i64 2, .int .i64 1] w (.string (str [2])) := fun w => pPut (n := 2) (k := 1) (by omega) (by omega)
  have p7 : ∀ w, Gives Tryz.prog 137 #[.int .i64 10707, .int .i64 2] w (.string (str [41, 211])) := fun w => pPut (n := 10707) (k := 2) (by omega) (by omega)
  have ho : bits BinOp.or IntKind.i64 64 6 = 70 := by decide +kernel
  have hl8 : igB.length = 8 := rfl
  have hck := Lib.hid chk1
  have E := Lib.hid (show ipS1 ++ str [41, 211] ++ ipS2 ++ str igB = str ipB by rw [ipS1_eq, ipS2_eq, str_append, str_append, str_append]; rfl)
  unfold ipS1 ipS2 at hck E
  unfold p0S at *
  generalize adL aG = A at *
  generalize adL aF = F at *
  have hH := Hp.refl w
  go_enter Tryz.func81, Tryz.ntmps81
  go_wp2_with (first | (refine st ?_; clear hH; (first | intro W g hH | intro W hH)))
  (refine rq ?_; clear hH; intro W hH)
  go_wp2_with (first | (refine st ?_; clear hH; (first | intro W g hH | intro W hH)))
  (refine rq ?_; clear hH; intro W hH)
  go_wp2_with (first | (refine st ?_; clear hH; (first | intro W g hH | intro W hH)))
  ((with_reducible apply regK1 [] hH (SubH.refl) (by kernel_rfl)); (focus ((intro W hH); refine kt [0, 1, 2, 7, 9] ?_; refine kl [10] ?_; refine ko 3 ?_; go_wp2_with (first | ((go_at_call 128; refine callR 0 hH rfl (fun hr => hck.out _ _ _ hr) ?_; (clear hH; (first | intro W g hH | intro W hH); (try simp only [Act.put, pA, pB, pC])))) | (refine st ?_; clear hH; (first | intro W g hH | intro W hH))); refine ke ?_; refine ko 4 ?_; go_wp2_with (first | ((go_at_call 128; refine callR 0 hH rfl (fun hr => hck.out _ _ _ hr) ?_; (clear hH; (first | intro W g hH | intro W hH); (try simp only [Act.put, pA, pB, pC])))) | (refine st ?_; clear hH; (first | intro W g hH | intro W hH))); refine ke ?_; refine ko 5 ?_; go_wp2_with (first | ((go_at_call 128; refine callR 0 hH rfl (fun hr => hck.out _ _ _ hr) ?_; (clear hH; (first | intro W g hH | intro W hH); (try simp only [Act.put, pA, pB, pC])))) | (refine st ?_; clear hH; (first | intro W g hH | intro W hH))); refine ke ?_; refine kt [6, 8, 11, 12, 13] ?_; exact hk_end (by kernel_rfl) ⟨g, rfl, hH⟩)); ((try clear hH); intro W g hH))
  go_wp2_with (first | (refine st ?_; clear hH; (first | intro W g hH | intro W hH)))
  go_ret2
  exact ⟨congrArg (fun x => Ending.returned (Value.tuple #[.string x, .int .i64 0])) E.out, hH.below⟩
def mG : List UInt8 := [1, 0, 94, 1, 2, 3]
def mF : List UInt8 := [2, 0, 0, 0, 0, 0]
def e0S (M N : List Value) (b : ByteArray) : List Seg := [.many M 6, .many N 6, .one (.bool true), .one (.int .i64 5), .one (.int .i64 0), .one (.int .i64 2048), .one (.string b)]
theorem eGood0 {M N : List Value} (oM : OkA M 6) (oN : OkA N 6) : Gives Tryz.prog 82 #[.agg (fls (e0S M N (str ipB))).toArray] w (.bool true) := by
  refine Gives.of ?_
  have hs : (str ipB).size = 32 := rfl
  unfold e0S
  generalize str ipB = b at *
  have hH := Hp.refl w
  go_enter Tryz.func82, Tryz.ntmps82
  go_wp2_with (first | (refine st ?_; clear hH; (first | intro W g hH | intro W hH)))
  go_ret
  exact ⟨rfl, hH.below⟩
theorem okM {l : List UInt8} (h : l.length = 6) : OkA (l.map byteV) 6 := okA_bytes h
theorem eWrite0 : Gives Tryz.prog 36 #[.agg (fls (e0S (mG.map byteV) (mF.map byteV) (str ipB))).toArray] w (.tuple #[.string (str frB), .int .i64 0]) := by
  refine Gives.of ?_
  have oM := okM (l := mG) rfl
  have oN := okM (l := mF) rfl
  have fg : ∀ w, Gives Tryz.prog 82 #[.agg (fls (e0S (mG.map byteV) (mF.map byteV) (str ipB))).toArray] w (.bool true) := fun w => eGood0 oM oN
  have p1 : ∀ w, Gives Tryz.prog 83 #[.int .i64 33024] w (.string (str [129, 0])) := fun w => eTwo (n := 33024) (by omega)
  have p2 : ∀ w, Gives Tryz.prog 83 #[.int .i64 5] w (.string (str [0, 5])) := fun w => eTwo (n := 5) (by omega)
  have p3 : ∀ w, Gives Tryz.prog 83 #[.int .i64 2048] w (.string (str [8, 0])) := fun w => eTwo (n := 2048) (by omega)
  have ho : bits BinOp.or IntKind.i64 0 5 = 5 := by decide +kernel
  have hs : ipB.length = 32 := rfl
  have hs1 : mG.length = 6 := rfl
  have hs2 : mF.length = 6 := rfl
  have E := Lib.hid (show str mG ++ str mF ++ (str [129, 0] ++ str [0, 5]) ++ str [8, 0] ++ str ipB = str frB by simp only [str_append]; rfl)
  have hal : Tryz.prog.arrayLen 40 = 6 := by kernel_rfl
  have hel : Tryz.prog.elem 40 = 5 := by kernel_rfl
  have hcv : ∀ (gw : Nat) (y : HW w.heap.size w [(gw, 47, true, e0S (mG.map byteV) (mF.map byteV) (str ipB))]), (convert 114 9 (.slice (some ⟨gw, 0, none⟩) 6 6)).run Tryz.prog y.w = .ok (.string (str mG)) y.w ∧ (convert 114 9 (.slice (some ⟨gw, 6, none⟩) 6 6)).run Tryz.prog y.w = .ok (.string (str mF)) y.w   := fun gw y => by
    have hr := (y.hp.rows.mem (i := 0) rfl).1
    constructor
    · refine run_str_of Tryz.underlying114 Tryz.underlying5 Tryz.underlying9 rfl (fun k b hb => ?_)
      rw [hr.cell]
      have : k < 6 := (List.getElem?_eq_some_iff.1 hb).1
      rcases (show k = 0 ∨ k = 1 ∨ k = 2 ∨ k = 3 ∨ k = 4 ∨ k = 5 by omega) with rfl | rfl | rfl | rfl | rfl | rfl <;> (simp [mG] at hb; subst hb; rfl)
    · refine run_str_of Tryz.underlying114 Tryz.underlying5 Tryz.underlying9 rfl (fun k b hb => ?_)
      rw [hr.cell]
      have : k < 6 := (List.getElem?_eq_some_iff.1 hb).1
      rcases (show k = 0 ∨ k = 1 ∨ k = 2 ∨ k = 3 ∨ k = 4 ∨ k = 5 by omega) with rfl | rfl | rfl | rfl | rfl | rfl <;> (simp [mF] at hb; subst hb; rfl)
  have hsl1 : ∀ W (g : Nat), (Instr.sliceAt 40 (.pointer (some ⟨g, 0, none⟩)) none none none).run Tryz.prog W = .ok (.slice (some ⟨g, 0, none⟩) 6 6) W := fun W g => by kernel_rfl
  have hsl2 : ∀ W (g : Nat), (Instr.sliceAt 40 (.pointer (some ⟨g, 6, none⟩)) none none none).run Tryz.prog W = .ok (.slice (some ⟨g, 6, none⟩) 6 6) W := fun W g => by kernel_rfl
  unfold e0S at *
  clear hal hel
  generalize mG.map byteV = M at *
  generalize mF.map byteV = N at *
  have hH := Hp.refl w
  go_enter Tryz.func36, Tryz.ntmps36
  go_wp2_with (first | (refine st ?_; clear hH; (first | intro W g hH | intro W hH)))
  have hc1 := fun y => (hcv g y).1
  have hc2 := fun y => (hcv g y).2
  clear hcv
  (refine rq ?_; clear hH; intro W hH)
  go_wp2_with (first | (refine st ?_; clear hH; (first | intro W g hH | intro W hH)))
  (refine rq ?_; clear hH; intro W hH)
  go_wp2_with (first | (refine st ?_; clear hH; (first | intro W g hH | intro W hH)))
  (refine rq ?_; clear hH; intro W hH)
  go_wp2_with (first | (refine st ?_; clear hH; (first | intro W g hH | intro W hH)))
  go_ret2
  exact ⟨congrArg (fun x => Ending.returned (Value.tuple #[.string x, .int .i64 0])) E.out, hH.below⟩
end
/-- the constant's talk, its cells -/
def TK0 : List Value := fls (tkS tk0 none 0 none 0)
theorem okT : OkA TK0 26 := ⟨rfl, fun v hv => by
  have : TK0.all (·.oneCell') = true := by kernel_rfl
  exact List.all_eq_true.1 this v hv⟩
theorem tx0 (D : HB) : TkX D TK0 tk0 := ⟨none, 0, none, 0, rfl, fun _ _ _ _ => ⟨AdsAt.nil, RcsAt.nil⟩⟩
theorem goodT0 : goodT tk0 = true := good_tk0
section
variable {w : World}
theorem igWriteT : Gives Tryz.prog 80 #[.agg (fls [.many TK0 26]).toArray] w (.tuple #[.string (str igB), .int .i64 0]) := by rw [fls1]; exact igWrite0
theorem alert0 : Gives Tryz.prog 57 #[.agg (fls [.many TK0 26]).toArray] w (.bool true) := alert_any (tx0 [])
theorem packet0 : Gives Tryz.prog 35 #[.agg (fls (sdS 1 5 (adL aF) (adL aG) TK0 0 0 ⟨#[]⟩)).toArray] w (.string (str ipB)) := by
  refine Gives.of ?_
  have oT := okT
  have oG := adL_ok aG
  have oF := adL_ok aF
  have fa : ∀ w, Gives Tryz.prog 57 #[.agg (fls [.many TK0 26]).toArray] w (.bool true) := fun w => alert0
  have fi : ∀ w, Gives Tryz.prog 80 #[.agg (fls [.many TK0 26]).toArray] w (.tuple #[.string (str igB), .int .i64 0]) := fun w => igWriteT
  have fp : ∀ w, Gives Tryz.prog 81 #[.agg (fls (p0S (adL aG) (adL aF))).toArray] w (.tuple #[.string (str ipB), .int .i64 0]) := fun w => ipWrite0
  unfold sdS p0S at *
  generalize TK0 = T at *
  generalize adL aG = A at *
  generalize adL aF = F at *
  generalize str igB = b1 at *
  generalize str ipB = b2 at *
  have hH := Hp.refl w
  go_enter Tryz.func35, Tryz.ntmps35
  go_wp2_with (first | (refine st ?_; clear hH; (first | intro W g hH | intro W hH)))
  go_ret
  exact ⟨rfl, hH.below⟩
theorem fgood0 : Gives Tryz.prog 31 #[.agg (fls (sdS 1 5 (adL aF) (adL aG) TK0 0 0 ⟨#[]⟩)).toArray] w (.bool true) := by
  have := goodS_any (vlan := 5) (f := aF) (a := aG) (tx0 []) (Hp.refl w) goodT0 (by omega) (by omega) (by decide) (by decide) rfl rfl
  rwa [show (eqA aG (destA tk0) && hereA aF tk0) = true from by decide +kernel] at this
def MG : List Value := mG.map byteV
def MF : List Value := mF.map byteV
theorem mac0 : Gives Tryz.prog 18 #[.agg (fls [.many (adL aG) 17]).toArray] w (.tuple #[.agg (fls [.many MG 6]).toArray, .bool true]) := by
  have := aMac_any (a := aG) (w := w)
  rw [show macL aG = MG from by kernel_rfl, show groupA aG.v aG.b = true from by decide] at this
  rw [← rg_segs, fls1]; exact this
theorem fWrite0 : Gives Tryz.prog 12 #[.agg (fls (sdS 1 5 (adL aF) (adL aG) TK0 0 0 ⟨#[]⟩)).toArray, .agg (fls [.many MF 6]).toArray] w (.tuple #[.string (str frB), .int .i64 0]) := by
  refine Gives.of ?_
  have oT := okT
  have oG := adL_ok aG
  have oF := adL_ok aF
  have oMG : OkA MG 6 := okM rfl
  have oMF : OkA MF 6 := okM rfl
  have g0 := adL_0 aG
  have hvG : aG.v = false := rfl
  rw [hvG] at g0
  have f1 : ∀ w, Gives Tryz.prog 31 #[.agg (fls (sdS 1 5 (adL aF) (adL aG) TK0 0 0 ⟨#[]⟩)).toArray] w (.bool true) := fun w => fgood0
  have f2 : ∀ w, Gives Tryz.prog 18 #[.agg (fls [.many (adL aG) 17]).toArray] w (.tuple #[.agg (fls [.many MG 6]).toArray, .bool true]) := fun w => mac0
  have f3 : ∀ w, Gives Tryz.prog 35 #[.agg (fls (sdS 1 5 (adL aF) (adL aG) TK0 0 0 ⟨#[]⟩)).toArray] w (.string (str ipB)) := fun w => packet0
  have f4 : ∀ w, Gives Tryz.prog 36 #[.agg (fls (e0S MG MF (str ipB))).toArray] w (.tuple #[.string (str frB), .int .i64 0]) := fun w => eWrite0
  unfold sdS e0S at *
  generalize TK0 = T at *
  generalize adL aG = A at *
  generalize adL aF = F at *
  generalize MG = M at *
  generalize MF = N at *
  generalize str ipB = b1 at *
  generalize str frB = b2 at *
  have hH := Hp.refl w
  go_enter Tryz.func12, Tryz.ntmps12
  go_wp2_with (first | (refine st ?_; clear hH; (first | intro W g hH | intro W hH)))
  go_ret2
  exact ⟨rfl, hH.below⟩
end
section
variable {w : World}
theorem join0 : Gives Tryz.prog 32 #[] w (.agg (fls (sdS 1 5 (adL aF) (adL aG) TK0 0 0 ⟨#[]⟩)).toArray) := by
  refine Gives.of ?_
  have hH := Hp.refl w
  go_enter Tryz.func32, Tryz.ntmps32
  go_wp2_with (first | (refine st ?_; clear hH; (first | intro W g hH | intro W hH)))
  (refine iRet Tryz.results32 tab_ok rfl rfl hH ?_; refine ⟨_, _, rfl, rfl, rfl, ?_⟩)
  exact ⟨by kernel_rfl, hH.below⟩
theorem opt0 : opt4s (str ipB) = some true := by
  unfold opt4s
  rw [show ((str ipB).extract 20 (n4 (str ipB))).data.toList = [148, 4, 0, 0] from by decide +kernel, opt4_opt _ (by decide) (by decide) (by decide)]
  rw [show ([148, 4, 0, 0] : List UInt8).drop (4 : UInt8).toNat = [] from rfl, opt4_nil]; rfl
theorem err0 : err4 (str ipB) = 0 := by
  unfold err4
  rw [opt0]; decide +kernel
theorem pk0 : pk4 (str ipB) = ⟨0, aF, aG, 2, 1, str igB, true⟩ := by
  unfold pk4
  rw [if_pos err0, opt0]
  rw [show ad4 (str ipB) 12 = aF from by decide +kernel, show ad4 (str ipB) 16 = aG from by decide +kernel, show by4 (str ipB) 9 = 2 from by decide +kernel, show by4 (str ipB) 8 = 1 from by decide +kernel, show (str ipB).extract (n4 (str ipB)) (a4 (str ipB)) = str igB from by decide +kernel]
  rfl
theorem igF0 : rReadF (str igB) = (tk0, 0) := by kernel_rfl
theorem sayF0 : sayF 5 ⟨0, aF, aG, 2, 1, str igB, true⟩ = ⟨1, 5, aF, aG, tk0, 0, 0, ⟨#[]⟩, 0⟩ := by
  unfold sayF
  rw [if_neg (by rintro ⟨h, -⟩; cases h), if_pos ⟨rfl, rfl⟩]
  show tlF (rReadF (str igB)).1 (rReadF (str igB)).2 5 _ = _
  rw [igF0]
  unfold tlF tailR
  rw [if_neg (by simp)]
  rw [if_neg (by decide +kernel)]
theorem resF0 : resF (str frB) = ⟨1, 5, aF, aG, tk0, 0, 0, ⟨#[]⟩, 0⟩ := by
  unfold resF
  rw [if_neg (by decide +kernel), if_pos (by decide +kernel)]
  rw [show bdE (str frB) = str ipB from by decide +kernel, show vlE (str frB) = 5 from by decide +kernel, pk0]
  unfold outF
  rw [if_neg (by decide), if_neg (by decide), if_neg (by decide)]
  rw [if_neg (by
    rintro ⟨j, hj, hn⟩
    have : ∀ j, j < 6 → mN aG j = by4 (str frB) j := by decide +kernel
    exact hn (this j hj))]
  exact sayF0
theorem lives10 : Gives Tryz.prog 10 #[] w (.bool true) := by
  refine Gives.of ?_
  have oG := adL_ok aG
  have oF := adL_ok aF
  have oT := okT
  have hs : (str frB).size = 50 := rfl
  have f1 : ∀ w, Gives Tryz.prog 32 #[] w (.agg (fls (sdS 1 5 (adL aF) (adL aG) TK0 0 0 ⟨#[]⟩)).toArray) := fun w => join0
  have f2 : ∀ w, Gives Tryz.prog 12 #[.agg (fls (sdS 1 5 (adL aF) (adL aG) TK0 0 0 ⟨#[]⟩)).toArray, .agg (fls [.one (.int .u8 2), .one (.int .u8 0), .one (.int .u8 0), .one (.int .u8 0), .one (.int .u8 0), .one (.int .u8 0)]).toArray] w (.tuple #[.string (str frB), .int .i64 0]) := fun w => fWrite0
  have FR := Lib.hid (show ∀ (W : World) (H : HB) (Q : Ending → World → Prop), Hp w.heap.size w W H → (∀ W' X D, Hid (OkA X 26) → Hid (CellA X 2 (.int .i64 2)) → Hp w.heap.size w W' (H ++ D) → Q (.returned (.tuple #[.agg (fls (sdS 1 5 (adL aF) (adL aG) X 0 0 ⟨#[]⟩)).toArray, .int .i64 0])) W') → Calls Tryz.prog 6 #[.string (str frB)] W Q from fun W H Q hH hQ => by
    have := fread_any (b := str frB) (w := W) (by decide +kernel)
    rw [resF0] at this
    exact this.mono fun _ _ ⟨X, D, he, hm, hr⟩ => by subst he; exact hQ _ X D (Lib.hid hr.ok) (Lib.hid hr.c2) (hH.join hm))
  unfold sdS at *
  generalize TK0 = T at *
  generalize adL aG = A at *
  generalize adL aF = F at *
  generalize str frB = b at *
  have hH := Hp.refl w
  go_enter Tryz.func10, Tryz.ntmps10
  go_wp2_with (first | ((go_at_call 6; refine FR.out _ _ _ hH ?_; (clear hH; intro W X D hX hc hH); have oX := hX.out; have cX := hc.out; (try simp only [List.cons_append, List.nil_append] at hH); ((try simp only [Act.put, pA, pB, pC])))) | (refine st ?_; clear hH; (first | intro W g hH | intro W hH)))
  go_ret
  exact ⟨rfl, hH.below⟩
end
end Go.Proofs.YtdnehjhijmeihaaGreat
