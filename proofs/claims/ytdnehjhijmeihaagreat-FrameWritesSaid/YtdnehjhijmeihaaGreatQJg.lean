/-
  Joined texts: Jg.
-/
import Derived.Test.YtdnehjhijmeihaaGreatQJd
namespace Go.Proofs.YtdnehjhijmeihaaGreat
open Go.ChangeShapes Go.WideShapes Go.ChangeAt Go.RowKit
set_option linter.unusedVariables false
set_option linter.unusedSimpArgs false
set_option maxRecDepth 20000
set_option maxHeartbeats 4000000
attribute [local irreducible] wpList ByteArray.extract Int.decLt
def eqA (a b : Ad) : Bool := a == b
theorem eqA_run (a b : Ad) (w : World) : (binOp .eql 25 (.agg (fls [.many (adL a) 17]).toArray) (.agg (fls [.many (adL b) 17]).toArray)).run Tryz.prog w = .ok (.bool (eqA a b)) w := ad_eql a b w
def hereA (f : Ad) (T : Tk) : Bool := !f.v || (linkA f || (zeroA f.b && T.kind != 1))
section
variable {B : Nat} {w0 W w : World} {H D : HB} {g : Nat} {X M N M1 F A : List Value} {pr hop vlan e p : Int} {b body d : ByteArray} {al v is c1 c2 c3 c4 : Bool} {T : Tk} {Q : Ending → World → Prop} {f a : Ad}
theorem goodS_any (hX : TkX D X T) (hD : Hp B w0 w D) (hg : goodT T = true) (h0 : 0 ≤ vlan) (h1 : vlan ≤ 4094) (gF : goodA f.v f.b = true) (nF : groupA f.v f.b = false) (eV : f.v = a.v) (eT : T.v6 = a.v) :
    Gives Tryz.prog 31 #[.agg (fls (sdS 1 vlan (adL f) (adL a) X 0 0 ⟨#[]⟩)).toArray] w (.bool (eqA a (destA T) && hereA f T)) := by
  have fd := Lib.hid (show ∀ W', Below w.heap.size w W' → Gives Tryz.prog 72 #[.agg (fls [.many X 26]).toArray] W' (.tuple #[.agg (fls [.many (adL (destA T)) 17]).toArray, .bool true]) from fun W' hb => by
    obtain ⟨sp, sc, rp, rc, rfl, hI⟩ := hX
    obtain ⟨i1, i2⟩ := hI _ _ _ hD
    have := dest_any (T := T) (sc := sc) (rc := rc) (i1.below hb) (i2.below hb)
    rw [hg, if_pos rfl] at this
    rw [fls1]; exact this)
  have oX := hX.ok
  have x0 := hX.c0
  have x2 := hX.c2
  clear hX hD hg
  refine Gives.of ?_
  have hH := Hp.refl w
  have f1 : ∀ w, Gives Tryz.prog 71 #[.agg (fls [.many (adL f) 17]).toArray] w (.bool true) := fun w => by rw [← rg_segs, ← gF]; exact aGood_any f.h
  have f2 : ∀ w, Gives Tryz.prog 19 #[.agg (fls [.many (adL f) 17]).toArray] w (.bool false) := fun w => by rw [← rg_segs, ← nF]; exact aGroup_any f.h
  have f3 : ∀ w, Gives Tryz.prog 74 #[.agg (fls [.many (adL f) 17]).toArray] w (.bool (zeroA f.b)) := fun w => by rw [← rg_segs]; exact aZero_any f.h
  have f4 : ∀ w, Gives Tryz.prog 73 #[.agg (fls [.many (adL f) 17]).toArray] w (.bool (linkA f)) := fun w => link_any
  have fe := eqA_run a (destA T)
  have y0 := adL_0 f
  have z0 := adL_0 a
  have oF := adL_ok f
  have oA := adL_ok a
  have oD := adL_ok (destA T)
  unfold sdS hereA
  rw [eT] at x0
  rw [← eV] at x0 z0
  generalize adL (destA T) = Y at *
  generalize eqA a (destA T) = c1 at *
  generalize linkA f = c2 at *
  generalize zeroA f.b = c3 at *
  obtain ⟨c4, d4⟩ : ∃ c, (T.kind != 1) = c := ⟨_, rfl⟩
  rw [d4]
  generalize T.kind = k at *
  generalize adL f = F at *
  generalize adL a = A at *
  generalize f.v = v at *
  have e1 : decide (vlan < 0) = false := decide_eq_false (by omega)
  have e2 : decide (4094 < vlan) = false := decide_eq_false (by omega)
  clear gF nF eV eT
  cases v; rotate_left; (focus (cases c2; (focus (cases c3; rotate_left; (focus (cases c4))))))
  all_goals cases c1
  all_goals go_enter Tryz.func31, Tryz.ntmps31
  all_goals go_wp2_with (first | (refine st ?_; clear hH; first | intro W g hH | intro W hH) | ((with_reducible refine callH hH ?_); refine ⟨?_, ?_, ?_⟩; rotate_left; (focus (first | (exact fd.out _ hH.below))); (clear hH; first | intro W g hH | intro W hH); ((try simp only [Act.put, pA, pB, pC]))))
  all_goals go_ret
  all_goals exact ⟨rfl, hH.below⟩
structure Res where
  kind : Int
  vlan : Int
  f : Ad
  a : Ad
  t : Tk
  pr : Int
  hop : Int
  d : ByteArray
  e : Int
def Res.S (r : Res) (X : List Value) : List Seg := sdS r.kind r.vlan (adL r.f) (adL r.a) X r.pr r.hop r.d
def Res.z (e : Int) : Res := ⟨0, 0, Ad.z, Ad.z, Tk.z, 0, 0, ⟨#[]⟩, e⟩
def FPost (w : World) (r : Res) (e : Ending) (w' : World) : Prop := ∃ X D, e = .returned (.tuple #[.agg (fls (r.S X)).toArray, .int .i64 r.e]) ∧ Made w w' D ∧ TkX D X r.t
def SyC (S : List Seg) (vlan : Int) (r : Res) : Prop := ∀ (g B : Nat) (w0 W : World) (H : HB) (Q : Ending → World → Prop), Hp B w0 W ((g, 51, true, S) :: H) → (∀ W' X D, Hid (TkX D X r.t) → Hid (∀ r ∈ D, r.2.2.1 = true) → Hp B w0 W' (H ++ D) → Q (.returned (.tuple #[.agg (fls (r.S X)).toArray, .int .i64 r.e])) W') → Calls Tryz.prog 20 #[.pointer (some ⟨g, 0, none⟩), .int .i64 vlan] W Q
theorem FPost.of {r : Res} (h : Gives Tryz.prog 6 #[.string b] w (.tuple #[.agg (fls (r.S TZ)).toArray, .int .i64 r.e])) (ht : r.t = Tk.z) : Calls Tryz.prog 6 #[.string b] w (FPost w r) :=
  h.to.mono fun _ _ ⟨he, hb⟩ => ⟨TZ, [], he, ⟨(Hp.refl w).keep hb, fun _ h => absurd h (List.not_mem_nil)⟩, by rw [ht]; exact TkX.z []⟩
theorem fr_err (f1 : ∀ w, Gives Tryz.prog 16 #[.string b] w (.tuple #[.agg eZ.toArray, .int .i64 e])) (he : (e != 0) = true) : Gives Tryz.prog 6 #[.string b] w (.tuple #[.agg (fls (sdS 0 0 aZ aZ TZ 0 0 ⟨#[]⟩)).toArray, .int .i64 e]) := by
  refine Gives.of ?_
  have hH := Hp.refl w
  have oz : OkA z6L 6 := by unfold z6L; exact ⟨rfl, fun v hv => by rw [List.eq_of_mem_replicate hv]; rfl⟩
  unfold eZ eS sdS aZ TZ at *
  go_enter Tryz.func6, Tryz.ntmps6
  go_wp2_with (refine st ?_; clear hH; first | intro W g hH | intro W hH)
  (refine iRet2 Tryz.results6 tab_ok rfl rfl hH ?_; refine ⟨_, _, rfl, rfl, rfl, ?_⟩)
  exact ⟨rfl, hH.below⟩
theorem fr_other {ty : Int} (oM : OkA M 6) (oN : OkA N 6) (f1 : ∀ w, Gives Tryz.prog 16 #[.string b] w (.tuple #[.agg (fls (eS M N is p vlan ty body)).toArray, .int .i64 0])) (d1 : (ty != 2048) = true) (d2 : (ty != 34525) = true) : Gives Tryz.prog 6 #[.string b] w (.tuple #[.agg (fls (sdS 0 vlan aZ aZ TZ 0 0 ⟨#[]⟩)).toArray, .int .i64 0]) := by
  refine Gives.of ?_
  have hH := Hp.refl w
  unfold eS sdS aZ TZ at *
  go_enter Tryz.func6, Tryz.ntmps6
  go_wp2_with (refine st ?_; clear hH; first | intro W g hH | intro W hH)
  (refine iRet2 Tryz.results6 tab_ok rfl rfl hH ?_; refine ⟨_, _, rfl, rfl, rfl, ?_⟩)
  exact ⟨rfl, hH.below⟩
theorem fr_open {ty : Int} (oM : OkA M 6) (oN : OkA N 6) (oF : OkA F 17) (oA : OkA A 17) (f1 : ∀ w, Gives Tryz.prog 16 #[.string b] w (.tuple #[.agg (fls (eS M N is p vlan ty body)).toArray, .int .i64 0])) (ht : ty = 2048 ∨ ty = 34525)
    (f2 : ∀ w, Gives Tryz.prog 17 #[.agg (fls (eS M N is p vlan ty body)).toArray] w (.tuple #[.agg (fls (hdS F A TZ pr hop d al)).toArray, .int .i64 e])) (d3 : (e != 0) = c1)
    (f3 : ∀ w, Gives Tryz.prog 18 #[.agg (fls [.many A 17]).toArray] w (.tuple #[.agg (fls [.many M1 6]).toArray, .bool c3])) (oM1 : OkA M1 6) (f4 : ∀ w, Gives Tryz.prog 19 #[.agg (fls [.many F 17]).toArray] w (.bool c2))
    (fE : ∀ w, (binOp .neq 40 (.agg (fls [.many M1 6]).toArray) (.agg (fls [.many M 6]).toArray)).run Tryz.prog w = .ok (.bool c4) w) (hc : (c1 || (c2 || (!c3 || c4))) = true) :
    Gives Tryz.prog 6 #[.string b] w (.tuple #[.agg (fls (sdS 0 (if c1 || c2 then 0 else if c3 then 0 else vlan) aZ aZ TZ 0 0 ⟨#[]⟩)).toArray, .int .i64 (if c1 then e else if c2 then 2 else if c3 then 2 else 0)]) := by
  refine Gives.of ?_
  have hH := Hp.refl w
  have oZ := TZ_ok
  unfold eS sdS hdS aZ TZ at *
  rcases ht with rfl | rfl
  all_goals (cases c1; (focus (cases c2; (focus (cases c3; rotate_left; (focus (cases c4; (focus (cases hc)))))))))
  all_goals go_enter Tryz.func6, Tryz.ntmps6
  all_goals go_wp2_with (refine st ?_; clear hH; first | intro W g hH | intro W hH)
  all_goals (refine iRet2 Tryz.results6 tab_ok rfl rfl hH ?_; refine ⟨_, _, rfl, rfl, rfl, ?_⟩)
  all_goals exact ⟨rfl, hH.below⟩
theorem fr_say {ty : Int} {r : Res} (oM : OkA M 6) (oN : OkA N 6) (oF : OkA F 17) (oA : OkA A 17) (f1 : ∀ w, Gives Tryz.prog 16 #[.string b] w (.tuple #[.agg (fls (eS M N is p vlan ty body)).toArray, .int .i64 0])) (ht : ty = 2048 ∨ ty = 34525)
    (f2 : ∀ w, Gives Tryz.prog 17 #[.agg (fls (eS M N is p vlan ty body)).toArray] w (.tuple #[.agg (fls (hdS F A TZ pr hop d al)).toArray, .int .i64 0]))
    (f3 : ∀ w, Gives Tryz.prog 18 #[.agg (fls [.many A 17]).toArray] w (.tuple #[.agg (fls [.many M1 6]).toArray, .bool true])) (oM1 : OkA M1 6) (f4 : ∀ w, Gives Tryz.prog 19 #[.agg (fls [.many F 17]).toArray] w (.bool false))
    (fE : ∀ w, (binOp .neq 40 (.agg (fls [.many M1 6]).toArray) (.agg (fls [.many M 6]).toArray)).run Tryz.prog w = .ok (.bool false) w) (hs : SyC (hdS F A TZ pr hop d al) vlan r) :
    Calls Tryz.prog 6 #[.string b] w (FPost w r) := by
  have hH := Hp.refl w
  have oZ := TZ_ok
  have o1 := adL_ok r.f
  have o2 := adL_ok r.a
  unfold FPost SyC Res.S at *
  unfold eS sdS hdS TZ at *
  rcases ht with rfl | rfl
  all_goals go_enter Tryz.func6, Tryz.ntmps6
  all_goals go_wp2_with (first | ((go_at_call 20; refine hs _ _ _ _ _ _ (swapH hH) ?_; (clear hH; intro W X D hX hO hH); have oX := TkX.ok hX; (try simp only [List.cons_append] at hH); ((try simp only [Act.put, pA, pB, pC])))) | (refine st ?_; clear hH; first | intro W g hH | intro W hH))
  all_goals trace_state
  all_goals (refine iRet2 Tryz.results6 tab_ok rfl rfl hH ?_; refine ⟨_, _, rfl, rfl, rfl, ?_⟩)
  all_goals exact ⟨X, D, rfl, ⟨hH.sub SubI.h, hO⟩, hX⟩
end
end Go.Proofs.YtdnehjhijmeihaaGreat
