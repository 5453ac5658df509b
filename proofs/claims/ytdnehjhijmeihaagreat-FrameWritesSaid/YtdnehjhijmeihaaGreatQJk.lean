/-
  Joined texts: Jk, Jn.
-/
import Derived.Test.YtdnehjhijmeihaaGreatQJh
import Derived.Test.YtdnehjhijmeihaaGreatQGq
import Derived.Test.YtdnehjhijmeihaaGreatQGiz
import Derived.Test.YtdnehjhijmeihaaGreatQVi
import Derived.Test.YtdnehjhijmeihaaGreatQJl
namespace Go.Proofs.YtdnehjhijmeihaaGreat
open Go.ChangeShapes Go.WideShapes Go.ChangeAt Go.RowKit
set_option linter.unusedVariables false
set_option linter.unusedSimpArgs false
set_option maxRecDepth 20000
set_option maxHeartbeats 4000000
structure Pk where
  e : Int
  f : Ad
  a : Ad
  pr : Int
  hop : Int
  d : ByteArray
  al : Bool
def Pk.z (e : Int) : Pk := ⟨e, Ad.z, Ad.z, 0, 0, ⟨#[]⟩, false⟩
def pk4 (s : ByteArray) : Pk := if err4 s = 0 then ⟨0, ad4 s 12, ad4 s 16, by4 s 9, by4 s 8, s.extract (n4 s) (a4 s), (opt4s s).getD false⟩ else Pk.z (err4 s)
def pk6 (s : ByteArray) : Pk := if err6 s = 0 then (if by4 s 6 = 0 then ⟨0, adR (s.extract 8 24), adR (s.extract 24 40), (strip6 (b6 s)).nx, by4 s 7, (strip6 (b6 s)).r, (strip6 (b6 s)).is⟩ else ⟨0, adR (s.extract 8 24), adR (s.extract 24 40), by4 s 6, by4 s 7, b6 s, false⟩) else Pk.z (err6 s)
theorem aZ_is : aZ = adL Ad.z := adL_z.symm
theorem pk4_e (s : ByteArray) : (pk4 s).e = err4 s := by unfold pk4; split <;> simp_all [Pk.z]
theorem pk6_e (s : ByteArray) : (pk6 s).e = err6 s := by unfold pk6; split <;> (try split) <;> simp_all [Pk.z]
theorem p4X_is (s : ByteArray) : ∃ tos id, p4X s = fls (pS4 tos id (pk4 s).hop (pk4 s).pr (adL (pk4 s).f) (adL (pk4 s).a) (pk4 s).al (pk4 s).d) := by
  unfold p4X pk4 pZ4
  rw [aZ_is]
  split
  · exact ⟨(by4 s 1 : Int), ((by4 s 4 * 256 + by4 s 5 : Nat) : Int), rfl⟩
  · exact ⟨0, 0, rfl⟩
theorem p6X_is (s : ByteArray) (cl fl : Int) : ∃ c1 c2, p6X s cl fl = fls (pS6 c1 c2 (pk6 s).pr (pk6 s).hop (adL (pk6 s).f) (adL (pk6 s).a) (pk6 s).al (pk6 s).d) := by
  unfold p6X pk6 pZ6
  rw [aZ_is]
  split
  · split
    · exact ⟨cl, fl, rfl⟩
    · exact ⟨cl, fl, rfl⟩
  · exact ⟨0, 0, rfl⟩
theorem adR_v4 {x : ByteArray} (h : x.size = 4) : (adR x).v = false := by unfold adR; rw [dif_pos h]
theorem adR_v6 {x : ByteArray} (h : x.size = 16) : (adR x).v = true := by unfold adR; rw [dif_neg (by omega), dif_pos h]
theorem rdC_of {f : FuncId} {args : Array Value} {T : Tk} {e : Int} (h : ∀ w, Calls Tryz.prog f args w fun E w' => ∃ sp sc rp rc D, E = .returned (.tuple #[.agg (fls (tkS T sp sc rp rc)).toArray, .int .i64 e]) ∧ Made w w' D ∧ TkIn D sp rp T) : RdC f args T e := fun B w0 W H Q hH hQ =>
  (h W).mono fun _ _ ⟨sp, sc, rp, rc, D, he, hm, hr⟩ => by
    subst he
    have := hQ _ (fls (tkS T sp sc rp rc)) D (Lib.hid ⟨sp, sc, rp, rc, rfl, hr⟩) (Lib.hid hm.2) (hH.join hm)
    rwa [fls1] at this
def alertT (T : Tk) : Bool := T.v6 || decide (1 < T.ver)
noncomputable def tlF (T : Tk) (e : Int) (vl : Int) (p : Pk) : Res := tailR T e p.hop vl p.al (alertT T) (eqA p.a (destA T) && hereA p.f T) p.f p.a
open Classical in
noncomputable def sayF (vl : Int) (p : Pk) : Res :=
  if p.a.v = true ∧ p.pr = 58 ∧ V.isF p.d = true then tlF (V.rReadF p.f p.a p.d).1 (V.rReadF p.f p.a p.d).2 vl p
  else if p.a.v = false ∧ p.pr = 2 then tlF (rReadF p.d).1 (rReadF p.d).2 vl p
  else ⟨2, vl, p.f, p.a, Tk.z, p.pr, p.hop, p.d, 0⟩
open Classical in
noncomputable def outF (b : ByteArray) (vl : Int) (p : Pk) : Res :=
  if p.e ≠ 0 then Res.z p.e else if groupA p.f.v p.f.b = true then Res.z 2 else if groupA p.a.v p.a.b = false then ⟨0, vl, Ad.z, Ad.z, Tk.z, 0, 0, ⟨#[]⟩, 0⟩
  else if ∃ j, j < 6 ∧ mN p.a j ≠ by4 b j then Res.z 2 else sayF vl p
noncomputable def resF (b : ByteArray) : Res :=
  if erE b ≠ 0 then Res.z (erE b) else if tyE b = 2048 then outF b (vlE b) (pk4 (bdE b)) else if tyE b = 34525 then outF b (vlE b) (pk6 (bdE b)) else ⟨0, vlE b, Ad.z, Ad.z, Tk.z, 0, 0, ⟨#[]⟩, 0⟩
structure Pk.Ok (p : Pk) : Prop where
  sz : p.d.size ≤ 800
  v : p.f.v = p.a.v
  gf : goodA p.f.v p.f.b = true
  ga : goodA p.a.v p.a.b = true
theorem goodA_four {x : ByteArray} (h : x.size = 4) : goodA (adR x).v (adR x).b = true := by
  unfold adR
  rw [dif_pos h]
  have hl := size_toList x
  show goodA false (adOf x) = true
  unfold goodA adOf
  rw [h]
  rw [List.drop_left' (by omega)]; rfl
theorem goodA_six {x : ByteArray} (h : x.size = 16) : goodA (adR x).v (adR x).b = true := by unfold adR; rw [dif_neg (by omega), dif_pos h]; rfl
theorem pk4_ok {s : ByteArray} (hs : s.size ≤ 800) (he : err4 s = 0) : (pk4 s).Ok := by
  have h20 : 20 ≤ s.size := by
    apply Classical.byContradiction; intro h
    unfold err4 at he; rw [if_pos (by omega)] at he; cases he
  unfold pk4
  rw [if_pos he]
  have h1 : (s.extract 12 16).size = 4 := by rw [extract_size (by omega) (by omega)]
  have h2 : (s.extract 16 20).size = 4 := by rw [extract_size (by omega) (by omega)]
  have h3 : (s.extract (n4 s) (a4 s)).size ≤ s.size := by rw [← size_toList, toList_extract, List.length_take, List.length_drop, size_toList]; omega
  exact ⟨by show (s.extract (n4 s) (a4 s)).size ≤ 800; omega, (adR_v4 h1).trans (adR_v4 h2).symm, goodA_four h1, goodA_four h2⟩
theorem pk6_ok {s : ByteArray} (hs : s.size ≤ 800) (he : err6 s = 0) : (pk6 s).Ok := by
  have h40 : 40 ≤ s.size := by
    apply Classical.byContradiction; intro h
    unfold err6 at he; rw [if_pos (by omega)] at he; cases he
  have h1 : (s.extract 8 24).size = 16 := by rw [extract_size (by omega) (by omega)]
  have h2 : (s.extract 24 40).size = 16 := by rw [extract_size (by omega) (by omega)]
  have h3 : (b6 s).size ≤ s.size := by unfold b6; rw [← size_toList, toList_extract, List.length_take, List.length_drop, size_toList]; omega
  have h4 := strip_r (b := b6 s)
  unfold pk6
  rw [if_pos he]
  split
  · exact ⟨by show (strip6 (b6 s)).r.size ≤ 800; omega, (adR_v6 h1).trans (adR_v6 h2).symm, goodA_six h1, goodA_six h2⟩
  · exact ⟨by show (b6 s).size ≤ 800; omega, (adR_v6 h1).trans (adR_v6 h2).symm, goodA_six h1, goodA_six h2⟩
theorem good6_v {T : Tk} (h : good6 T = true) : T.v6 = true := by
  cases hv : T.v6
  · unfold good6 at h; simp [hv] at h
  · rfl
theorem good4_v {T : Tk} (h : good4 T = true) : T.v6 = false := by
  cases hv : T.v6
  · rfl
  · unfold good4 at h; simp [hv] at h
section
variable {p : Pk} {T : Tk} {e vl : Int}
noncomputable abbrev Pk.H (p : Pk) : List Seg := hdS (adL p.f) (adL p.a) TZ p.pr p.hop p.d p.al
theorem syC_tl (hp : p.Ok) (nF : groupA p.f.v p.f.b = false) (h0 : 0 ≤ vl) (h1 : vl ≤ 4094) (ht : ∀ g, TlC g p.H T true e) (hg : e = 0 → goodT T = true) (hv6 : e = 0 → T.v6 = p.a.v) : SyC p.H vl (tlF T e vl p) := by
  intro g B w0 W H Q hH hQ
  by_cases he : e = 0
  · subst he
    have hr : tlF T 0 vl p = if (p.hop != 1 || (alertT T && !p.al || !(eqA p.a (destA T) && hereA p.f T))) = true then Res.z 2 else ⟨1, vl, p.f, p.a, T, 0, 0, ⟨#[]⟩, 0⟩ := by unfold tlF tailR; rw [if_neg (by simp)]
    generalize tlF T 0 vl p = r at *
    subst hr
    refine say_t (adL_ok p.f) (adL_ok p.a) (ht g) rfl (fun X D w hX => alert_any hX) (fun X D W' hX hD => goodS_any hX hD (hg rfl) h0 h1 hp.gf nF hp.v (hv6 rfl)) hH ?_
    intro W' X D hX hO h'
    have hQ := hQ W' X D
    by_cases hc : (p.hop != 1 || (alertT T && !p.al || !(eqA p.a (destA T) && hereA p.f T))) = true
    · have hc' := hc
      unfold alertT at hc'
      simp only [hc', if_true] at hX ⊢
      simp only [hc, if_true] at hQ
      have := hQ hX hO h'
      simpa [Res.S, Res.z, aZ_is] using this
    · have hc' := hc
      unfold alertT at hc'
      simp only [hc', if_false] at hX ⊢
      simp only [hc, if_false] at hQ
      exact hQ hX hO h'
  · have hr : tlF T e vl p = Res.z e := by unfold tlF tailR; rw [if_pos he]
    rw [hr] at hQ
    refine say_e (adL_ok p.f) (adL_ok p.a) (ht g) (by simpa using he) hH ?_
    intro W' D hO h'
    have := hQ W' TZ D (Lib.hid (TkX.z D)) hO h'
    simpa [Res.S, Res.z, aZ_is] using this
theorem syC_n (ht : ∀ g, TlC g p.H Tk.z false 0) : SyC p.H vl ⟨2, vl, p.f, p.a, Tk.z, p.pr, p.hop, p.d, 0⟩ := fun g B w0 W H Q hH hQ =>
  say_n (adL_ok p.f) (adL_ok p.a) (ht g) hH (fun W' D hO h' => hQ W' TZ D (Lib.hid (TkX.z D)) hO h')
theorem tlC_n (hc : p.a.v = true ∧ ((p.pr == 58) = false ∨ V.isF p.d = false) ∨ p.a.v = false ∧ (p.pr == 2) = false) (g : Nat) : TlC g p.H Tk.z false 0 := fun B w0 W H Q hH hQ =>
  talk_n (adL_ok p.f) (adL_ok p.a) (adL_0 p.a) (fun w => V.vIs_any) rfl rfl hc hH (fun W' h => hQ W' TZ [] (Lib.hid (TkX.z _)) (Lib.hid (fun _ h => absurd h List.not_mem_nil)) (by simpa using h))
end
theorem sayC {p : Pk} {vl : Int} (hp : p.Ok) (nF : groupA p.f.v p.f.b = false) (h0 : 0 ≤ vl) (h1 : vl ≤ 4094) : SyC p.H vl (sayF vl p) := by
  have hs : p.d.size ≤ 100000 := by have := hp.sz; omega
  unfold sayF
  by_cases hm : p.a.v = true ∧ p.pr = 58 ∧ V.isF p.d = true
  · rw [if_pos hm]
    obtain ⟨hv, h58, his⟩ := hm
    have hfv : (p.f.v && p.a.v) = true := by rw [hp.v, hv]; rfl
    have hm : RdC 110 #[.string p.d, .agg (fls [.many (adL p.f) 17]).toArray, .agg (fls [.many (adL p.a) 17]).toArray] (V.rReadF p.f p.a p.d).1 (V.rReadF p.f p.a p.d).2 := rdC_of (fun w => by
      have := V.vread_any (w := w) (f := p.f) (t := p.a) hs
      rwa [V.readF_is hfv] at this)
    refine syC_tl hp nF h0 h1 (fun g B w0 W H Q hH hQ => ?_) (fun he => ?_) (fun he => ?_)
    · have a0 := adL_0 p.a
      rw [hv] at a0
      unfold Pk.H at hH hQ
      rw [h58] at hH hQ
      exact talk_m (adL_ok p.f) (adL_ok p.a) a0 (fun w => by rw [← his]; exact V.vIs_any) hm hH hQ
    · have h6 := V.rReadF_good (f := p.f) (t := p.a) (s := p.d) (by have := hp.sz; omega) he
      unfold goodT
      rw [if_pos (good6_v h6)]; exact h6
    · rw [hv]; exact good6_v (V.rReadF_good (f := p.f) (t := p.a) (s := p.d) (by have := hp.sz; omega) he)
  rw [if_neg hm]
  by_cases hi : p.a.v = false ∧ p.pr = 2
  · rw [if_pos hi]
    obtain ⟨hv, h2⟩ := hi
    have hm : RdC 111 #[.string p.d] (rReadF p.d).1 (rReadF p.d).2 := rdC_of (fun w => by
      have := iread_any (w := w) hs
      rwa [readF_is] at this)
    refine syC_tl hp nF h0 h1 (fun g B w0 W H Q hH hQ => ?_) (fun he => ?_) (fun he => ?_)
    · have a0 := adL_0 p.a
      rw [hv] at a0
      unfold Pk.H at hH hQ
      rw [h2] at hH hQ
      exact talk_i (adL_ok p.f) (adL_ok p.a) a0 hm hH hQ
    · have h4 := rReadF_good (s := p.d) (by have := hp.sz; omega) he
      unfold goodT
      rw [if_neg (by rw [good4_v h4]; decide)]; exact h4
    · rw [hv]; exact good4_v (rReadF_good (s := p.d) (by have := hp.sz; omega) he)
  rw [if_neg hi]
  refine syC_n (fun g => tlC_n ?_ g)
  cases hv : p.a.v
  · exact .inr ⟨rfl, by simp; exact fun h => hi ⟨hv, h⟩⟩
  · refine .inl ⟨rfl, ?_⟩
    by_cases h58 : p.pr = 58
    · right
      cases his : V.isF p.d
      · rfl
      · exact absurd ⟨hv, h58, his⟩ hm
    · left; simpa using h58
end Go.Proofs.YtdnehjhijmeihaaGreat
namespace Go.Proofs.YtdnehjhijmeihaaGreat
open Go.ChangeShapes Go.WideShapes Go.ChangeAt Go.RowKit
set_option linter.unusedVariables false
set_option linter.unusedSimpArgs false
set_option maxRecDepth 20000
section
variable {b : ByteArray} {w : World} {p : Pk} {ty vl pr : Int} {tg : Bool} {body : ByteArray}
theorem macX (a : Ad) : ∃ xs : List UInt8, xs.length = 6 ∧ macL a = xs.map byteV ∧ (groupA a.v a.b = true → xs = macB a) := by
  by_cases hg : groupA a.v a.b = true
  · exact ⟨macB a, macB_len a, macL_is hg, fun _ => rfl⟩
  · refine ⟨List.replicate 6 0, rfl, ?_, fun h => absurd h hg⟩
    unfold macL
    rw [if_neg hg]; rfl
theorem fr_out (h14 : 14 ≤ b.size) (ht : ty = 2048 ∨ ty = 34525) (h0 : 0 ≤ vl) (h1 : vl ≤ 4094)
    (f1 : ∀ w, Gives Tryz.prog 16 #[.string b] w (.tuple #[.agg (fls (eS ((pad6 (b.extract 0 6)).map byteV) ((pad6 (b.extract 6 12)).map byteV) tg pr vl ty body)).toArray, .int .i64 0]))
    (f2 : ∀ w, Gives Tryz.prog 17 #[.agg (fls (eS ((pad6 (b.extract 0 6)).map byteV) ((pad6 (b.extract 6 12)).map byteV) tg pr vl ty body)).toArray] w (.tuple #[.agg (fls p.H).toArray, .int .i64 p.e])) (hok : p.e = 0 → p.Ok) :
    Calls Tryz.prog 6 #[.string b] w (FPost w (outF b vl p)) := by
  have l0 : (pad6 (b.extract 0 6)).length = 6 := pad6_len (by have := cut_size2 b 0 6; omega)
  have oM := okA_bytes l0
  have oN := okA_bytes (pad6_len (x := b.extract 6 12) (by have := cut_size2 b 6 12; omega))
  obtain ⟨xs, hx6, hxs, hxg⟩ := macX p.a
  have oX : OkA (macL p.a) 6 := macL_ok
  have f3 : ∀ w, Gives Tryz.prog 18 #[.agg (fls [.many (adL p.a) 17]).toArray] w (.tuple #[.agg (fls [.many (macL p.a) 6]).toArray, .bool (groupA p.a.v p.a.b)]) := fun w => by rw [← rg_segs, fls1]; exact aMac_any
  have f4 : ∀ w, Gives Tryz.prog 19 #[.agg (fls [.many (adL p.f) 17]).toArray] w (.bool (groupA p.f.v p.f.b)) := fun w => by rw [← rg_segs]; exact aGroup_any p.f.h
  have fE : ∀ w, (binOp .neq 40 (.agg (fls [.many (macL p.a) 6]).toArray) (.agg (fls [.many ((pad6 (b.extract 0 6)).map byteV) 6]).toArray)).run Tryz.prog w = .ok (.bool (!(xs == pad6 (b.extract 0 6)))) w := fun w => by
    rw [fls1, fls1, hxs]; exact mac_neq hx6 l0 w
  unfold outF
  by_cases he : p.e ≠ 0
  · rw [if_pos he]
    have := fr_open (w := w) (c1 := true) oM oN (adL_ok _) (adL_ok _) f1 ht f2 (by simpa using he) f3 oX f4 fE (by simp)
    exact FPost.of (by simpa [Res.S, Res.z, aZ_is] using this) rfl
  rw [if_neg he]
  have he0 : p.e = 0 := Classical.not_not.1 he
  rw [he0] at f2
  by_cases hg : groupA p.f.v p.f.b = true
  · rw [if_pos hg]
    rw [hg] at f4
    have := fr_open (w := w) (c1 := false) oM oN (adL_ok _) (adL_ok _) f1 ht f2 (by simp) f3 oX f4 fE (by simp)
    exact FPost.of (by simpa [Res.S, Res.z, aZ_is] using this) rfl
  rw [if_neg hg]
  have hg : groupA p.f.v p.f.b = false := by simpa using hg
  rw [hg] at f4
  by_cases ha : groupA p.a.v p.a.b = false
  · rw [if_pos ha]
    rw [ha] at f3
    have := fr_open (w := w) (c1 := false) oM oN (adL_ok _) (adL_ok _) f1 ht f2 (by simp) f3 oX f4 fE (by simp)
    exact FPost.of (by simpa [Res.S, Res.z, aZ_is] using this) rfl
  rw [if_neg ha]
  have ha : groupA p.a.v p.a.b = true := by simpa using ha
  rw [ha] at f3
  obtain rfl := hxg ha
  by_cases hm : ∃ j, j < 6 ∧ mN p.a j ≠ by4 b j
  · rw [if_pos hm]
    rw [show (!(macB p.a == pad6 (b.extract 0 6))) = true by rw [mac_ne h14]; simp only [decide_eq_true_eq]; exact hm] at fE
    have := fr_open (w := w) (c1 := false) oM oN (adL_ok _) (adL_ok _) f1 ht f2 (by simp) f3 oX f4 fE (by simp)
    exact FPost.of (by simpa [Res.S, Res.z, aZ_is] using this) rfl
  rw [if_neg hm]
  rw [show (!(macB p.a == pad6 (b.extract 0 6))) = false by rw [mac_ne h14]; simp only [decide_eq_false_iff_not]; exact hm] at fE
  exact fr_say oM oN (adL_ok _) (adL_ok _) f1 ht f2 f3 oX f4 fE (sayC (hok he0) hg h0 h1)
theorem erE_14 (h : erE b = 0) : 14 ≤ b.size := by
  apply Classical.byContradiction; intro h1
  unfold erE at h; rw [if_pos (by omega)] at h; cases h
theorem vlE_le (h : erE b = 0) : vlE b ≤ 4094 := by
  have h14 := erE_14 h
  unfold erE at h
  unfold vlE
  rw [if_neg (by omega)] at h
  split
  · rename_i ht
    rw [if_pos ht] at h
    by_cases h8 : b.size < 18
    · rw [if_pos h8] at h; cases h
    · rw [if_neg h8] at h
      by_cases hc : numAt b 14 2 / 4096 % 2 = 1 ∨ numAt b 14 2 % 4096 = 4095 ∨ numAt b 16 2 < 1536 ∨ numAt b 16 2 = 33024
      · rw [if_pos hc] at h; cases h
      · omega
  · omega
theorem bdE_le (hs : b.size ≤ 800) : (bdE b).size ≤ 800 := by
  unfold bdE
  rw [← size_toList, toList_extract, List.length_take, List.length_drop, size_toList]; omega
theorem fread_any (hs : b.size ≤ 800) : Calls Tryz.prog 6 #[.string b] w (FPost w (resF b)) := by
  obtain ⟨pr, f1⟩ := eRead_any hs
  have hbd := bdE_le hs
  unfold resF
  by_cases he : erE b ≠ 0
  · rw [if_pos he]
    have := fr_err (w := w) (b := b) (e := erE b) (fun w => by have := f1 w; unfold eX at this; rwa [if_neg he] at this) (by simpa using he)
    exact FPost.of (by simpa [Res.S, Res.z, aZ_is] using this) rfl
  rw [if_neg he]
  have he0 : erE b = 0 := Classical.not_not.1 he
  unfold eX at f1
  rw [if_pos he0, he0] at f1
  have hv := vlE_le he0
  have h14 := erE_14 he0
  have oM := okA_bytes (pad6_len (x := b.extract 0 6) (by have := cut_size2 b 0 6; omega))
  have oN := okA_bytes (pad6_len (x := b.extract 6 12) (by have := cut_size2 b 6 12; omega))
  by_cases h4 : tyE b = 2048
  · rw [if_pos h4]
    rw [h4] at f1
    obtain ⟨tos, id, hp⟩ := p4X_is (bdE b)
    refine fr_out h14 (.inl rfl) (by omega) (by omega) f1 (fun w => open4 (adL_ok _) (adL_ok _) oM oN (tos := tos) (id := id) (fun w => ?_)) (fun h => pk4_ok hbd (by rw [← pk4_e]; exact h))
    rw [← hp, pk4_e]; exact Read4_any hbd
  rw [if_neg h4]
  by_cases h6 : tyE b = 34525
  · rw [if_pos h6]
    rw [h6] at f1
    obtain ⟨cl, fl, g6⟩ := Read6_any hbd
    obtain ⟨c1, c2, hp⟩ := p6X_is (bdE b) cl fl
    refine fr_out h14 (.inr rfl) (by omega) (by omega) f1 (fun w => open6 (adL_ok _) (adL_ok _) oM oN (tos := c1) (id := c2) (fun w => ?_)) (fun h => pk6_ok hbd (by rw [← pk6_e]; exact h))
    rw [← hp, pk6_e]; exact g6 w
  rw [if_neg h6]
  have := fr_other (w := w) oM oN f1 (by simp; omega) (by simp; omega)
  exact FPost.of (by simpa [Res.S, aZ_is] using this) rfl
end
end Go.Proofs.YtdnehjhijmeihaaGreat
