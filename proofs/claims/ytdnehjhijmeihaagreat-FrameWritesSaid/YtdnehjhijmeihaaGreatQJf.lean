/-
  Joined texts: Jf.
-/
import Derived.Test.YtdnehjhijmeihaaGreatQJ6
import Derived.Test.YtdnehjhijmeihaaGreatQJe
import Derived.Test.YtdnehjhijmeihaaGreatQJm
namespace Go.Proofs.YtdnehjhijmeihaaGreat
open Go.ChangeShapes Go.WideShapes Go.ChangeAt Go.RowKit
set_option linter.unusedVariables false
set_option linter.unusedSimpArgs false
set_option maxRecDepth 20000
set_option maxHeartbeats 4000000
attribute [local irreducible] wpList ByteArray.extract Int.decLt
instance subAppL {A B D : HB} [k : SubI A D] : SubI (A ++ B) D := ⟨k.h.l⟩
instance subAppR {A B D : HB} [k : SubI B D] : SubI (A ++ B) D := ⟨k.h.r⟩
noncomputable def TZ : List Value := zeroL Tryz.prog 29
def TkX (D : HB) (X : List Value) (T : Tk) : Prop := ∃ sp sc rp rc, X = fls (tkS T sp sc rp rc) ∧ TkIn D sp rp T
theorem tkS_okA (T : Tk) (sp rp : Option Addr) (sc rc : Nat) : OkA (fls (tkS T sp sc rp rc)) 26 := okA_fls (S := tkS T sp sc rp rc) ⟨rfl, rfl, rfl, rfl, adL_ok _, rfl, rfl, rfl, rfl, rfl, trivial⟩ rfl
theorem TkX.ok {D : HB} {X : List Value} {T : Tk} (h : TkX D X T) : OkA X 26 := by obtain ⟨_, _, _, _, rfl, _⟩ := h; exact tkS_okA _ _ _ _ _
theorem TkX.c0 {D : HB} {X : List Value} {T : Tk} (h : TkX D X T) : CellA X 0 (.bool T.v6) := by obtain ⟨_, _, _, _, rfl, _⟩ := h; rfl
theorem TkX.c1 {D : HB} {X : List Value} {T : Tk} (h : TkX D X T) : CellA X 1 (.int .i64 T.ver) := by obtain ⟨_, _, _, _, rfl, _⟩ := h; rfl
theorem TkX.c2 {D : HB} {X : List Value} {T : Tk} (h : TkX D X T) : CellA X 2 (.int .i64 T.kind) := by obtain ⟨_, _, _, _, rfl, _⟩ := h; rfl
theorem TZ_is : TZ = fls (tkS Tk.z none 0 none 0) := by unfold TZ tkS; rw [show adL Tk.z.grp = _ from adL_z]; kernel_rfl
theorem TkX.z (D : HB) : TkX D TZ Tk.z := ⟨none, 0, none, 0, TZ_is, fun _ _ _ _ => ⟨⟨Nat.zero_le _, fun i h => absurd h (Nat.not_lt_zero i)⟩, ⟨Nat.zero_le _, [], rfl, fun i h => absurd h (Nat.not_lt_zero i)⟩⟩⟩
theorem TZ_ok : OkA TZ 26 := (TkX.z []).ok
def hdS (F T Z : List Value) (pr hop : Int) (b : ByteArray) (al : Bool) : List Seg := [.one (.int .i64 0), .one (.int .i64 0), .many F 17, .many T 17, .many Z 26, .one (.int .i64 pr), .one (.int .i64 hop), .one (.string b), .one (.bool al)]
def sdS (kind vlan : Int) (F T X : List Value) (pr hop : Int) (b : ByteArray) : List Seg := [.one (.int .i64 kind), .one (.int .i64 vlan), .many F 17, .many T 17, .many X 26, .one (.int .i64 pr), .one (.int .i64 hop), .one (.string b)]
def RdC (f : FuncId) (args : Array Value) (T : Tk) (e : Int) : Prop := ∀ (B : Nat) (w0 W : World) (H : HB) (Q : Ending → World → Prop), Hp B w0 W H → (∀ W' X D, Hid (TkX D X T) → Hid (∀ r ∈ D, r.2.2.1 = true) → Hp B w0 W' (H ++ D) → Q (.returned (.tuple #[.agg (fls [.many X 26]).toArray, .int .i64 e])) W') → Calls Tryz.prog f args W Q
section
variable {P : Program} {T : Tab} {B : Nat} {w0 W : World} {H : HB} {g : Nat} {t ty : TypeId} {b : Bool} {S S2 : List Seg} {e : TyE} {a : Act}
theorem retC3 {fn : Func} {p q q2 : Tmp} {R : Ending → World → Prop} (h : fn.results = #[.cell p ty, .tmp q, .tmp q2]) (hT : TabOk P T) (i : Nat) (hp : a.tmps.getD p undef = .pointer (some ⟨g, 0, none⟩)) (h0 : a.defers = [])
    (hH : Hp B w0 W H) (hi : nthH H i = some (g, t, b, S)) (hty : findT ty T = some e) (hr : e.row = true) (hl : partS S 0 e.size = some S2) (hR : R (.returned (.tuple #[.agg (fls S2).toArray, a.tmps.getD q undef, a.tmps.getD q2 undef])) W) : bodyPost P fn R .ret a W := by
  obtain ⟨_, pre, post, h1, h2, h3⟩ := partS_ok (hH.rows.mem hi).2.1 hl
  obtain ⟨d, hu, hd⟩ := rowT_true (by rw [(hT.find hty).row, hr])
  have hs := (hT.find hty).size
  unfold sizeT at hs
  refine bodyPost_ret ?_ h0 hR
  have hl := run_loadVar_mid (P := P) W g 0 ty (fls S2) d (range_of hH hi ⟨pre, post, h1, h2⟩) hu hd (by rw [hs, h3])
  have hp' : a.tmps[p]?.getD undef = .pointer (some ⟨g, 0, none⟩) := by simpa using hp
  simp [results, h, hp', asAddr, hl, Sem.run_bind, Result.andThen]
end
section
variable {B : Nat} {w0 W w : World} {H D : HB} {g : Nat} {F A X M N : List Value} {pr hop vlan e ty tos id p : Int} {b bb : ByteArray} {al v is c1 c2 c3 c4 c5 : Bool} {T : Tk} {Q : Ending → World → Prop} {a : Ad}
theorem alert_any (h : TkX D X T) : Gives Tryz.prog 57 #[.agg (fls [.many X 26]).toArray] w (.bool (T.v6 || decide (1 < T.ver))) := by
  refine Gives.of ?_
  have hH := Hp.refl w
  have oX := h.ok
  have x0 := h.c0
  have x1 := h.c1
  clear h
  generalize T.v6 = v at *
  obtain ⟨c, hc⟩ : ∃ c, decide (1 < T.ver) = c := ⟨_, rfl⟩
  rw [hc]
  cases v <;> cases c
  all_goals go_enter Tryz.func57, Tryz.ntmps57
  all_goals go_wp2_with (refine st ?_; clear hH; first | intro W g hH | intro W hH)
  all_goals go_ret
  all_goals exact ⟨rfl, hH.below⟩
def linkA (a : Ad) : Bool := decide (bA a 0 = 254) && decide (bA a 1 / 64 = 2)
theorem link_any : Gives Tryz.prog 73 #[.agg (fls [.many (adL a) 17]).toArray] w (.bool (linkA a)) := by
  refine Gives.of ?_
  have hH := Hp.refl w
  have oA := okA_bytes a.h
  have x0 := bA_cell a (i := 0) (by omega)
  have x1 := bA_cell a (i := 1) (by omega)
  have l0 := bA_lt a 0
  have l1 := bA_lt a 1
  rw [← rg_segs, addr_segs]
  unfold linkA b8 at *
  generalize a.b.map byteV = Y at *
  generalize bA a 0 = n0 at *
  generalize bA a 1 = n1 at *
  have d0 : ((n0 : Int) == 254) = decide (n0 = 254) := by rw [Bool.eq_iff_iff]; simp; omega
  have d1 : ((n1 : Int) / 64 == 2) = decide (n1 / 64 = 2) := by rw [Bool.eq_iff_iff]; simp; omega
  generalize decide (n0 = 254) = c0 at *
  generalize decide (n1 / 64 = 2) = c1 at *
  cases c0 <;> cases c1
  all_goals go_enter Tryz.func73, Tryz.ntmps73
  all_goals go_wp2_with (refine st ?_; clear hH; first | intro W g hH | intro W hH)
  all_goals go_ret
  all_goals exact ⟨rfl, hH.below⟩
theorem talk_n (oF : OkA F 17) (oA : OkA A 17) (a0 : CellA A 0 (.bool v)) (fi : ∀ w, Gives Tryz.prog 109 #[.string b] w (.bool is)) (d1 : (pr == 58) = c1) (d2 : (pr == 2) = c2) (hc : v = true ∧ (c1 = false ∨ is = false) ∨ v = false ∧ c2 = false)
    (hH : Hp B w0 W ((g, 51, true, hdS F A TZ pr hop b al) :: H)) (hQ : ∀ W', Hp B w0 W' ((g, 51, true, hdS F A TZ pr hop b al) :: H) → Q (.returned (.tuple #[.agg (fls [.many TZ 26]).toArray, .bool false, .int .i64 0])) W') : Calls Tryz.prog 56 #[.pointer (some ⟨g, 0, none⟩)] W Q := by
  have HQ := Lib.hid hQ
  have oZ := TZ_ok
  clear hQ
  unfold hdS TZ at *
  rcases hc with ⟨rfl, rfl | rfl⟩ | ⟨rfl, rfl⟩
  all_goals go_enter Tryz.func56, Tryz.ntmps56
  all_goals go_wp2_with (refine st ?_; clear hH; first | intro W g hH | intro W hH)
  all_goals refine retC3 Tryz.results56 tab_ok 0 rfl rfl hH rfl rfl rfl rfl ?_
  all_goals exact HQ.out _ (hH.sub (SubH.drop SubH.refl))
theorem talk_m (oF : OkA F 17) (oA : OkA A 17) (a0 : CellA A 0 (.bool true)) (fi : ∀ w, Gives Tryz.prog 109 #[.string b] w (.bool true)) (hm : RdC 110 #[.string b, .agg (fls [.many F 17]).toArray, .agg (fls [.many A 17]).toArray] T e)
    (hH : Hp B w0 W ((g, 51, true, hdS F A TZ 58 hop b al) :: H)) (hQ : ∀ W' X D, Hid (TkX D X T) → Hid (∀ r ∈ D, r.2.2.1 = true) → Hp B w0 W' ((g, 51, true, hdS F A TZ 58 hop b al) :: (H ++ D)) → Q (.returned (.tuple #[.agg (fls [.many X 26]).toArray, .bool true, .int .i64 e])) W') : Calls Tryz.prog 56 #[.pointer (some ⟨g, 0, none⟩)] W Q := by
  have HQ := Lib.hid hQ
  have oZ := TZ_ok
  clear hQ
  unfold hdS TZ at *
  go_enter Tryz.func56, Tryz.ntmps56
  go_wp2_with (refine st ?_; clear hH; first | intro W g hH | intro W hH)
  ((with_reducible refine regKN [] hH (SubH.drop (SubH.keep SubH.nil)) (by kernel_rfl) ?_); (clear hH; intro W hH); refine kt [0, 1, 2, 3, 5, 6, 7, 8, 10, 11, 12, 13] ?_; refine kl [4, 9, 14] ?_; refine hk_two (fuel := 6) 15 19 rfl rfl (by kernel_rfl) ?_ ?_; (focus (go_wp2_with (first | ((go_at_call 110; refine hm _ _ _ _ _ hH ?_; (clear hH; intro W X D hX hO hH); have oX := TkX.ok hX; (try simp only [List.cons_append] at hH); ((try simp only [Act.put, pA, pB, pC])))) | (refine st ?_; clear hH; first | intro W g hH | intro W hH)); refine ke ?_; refine kt [16, 17, 18] ?_; refine ko 19 ?_; go_wp2_with (first | ((go_at_call 110; refine hm _ _ _ _ _ hH ?_; (clear hH; intro W X D hX hO hH); have oX := TkX.ok hX; (try simp only [List.cons_append] at hH); ((try simp only [Act.put, pA, pB, pC])))) | (refine st ?_; clear hH; first | intro W g hH | intro W hH)); refine ke ?_; refine ko 20 ?_; go_wp2_with (first | ((go_at_call 110; refine hm _ _ _ _ _ hH ?_; (clear hH; intro W X D hX hO hH); have oX := TkX.ok hX; (try simp only [List.cons_append] at hH); ((try simp only [Act.put, pA, pB, pC])))) | (refine st ?_; clear hH; first | intro W g hH | intro W hH)); refine ke ?_; refine kt [21] ?_; refine hk_endN (by kernel_rfl) ?_)); rotate_left 1; (focus (go_wp2_with (first | ((go_at_call 110; refine hm _ _ _ _ _ hH ?_; (clear hH; intro W X D hX hO hH); have oX := TkX.ok hX; (try simp only [List.cons_append] at hH); ((try simp only [Act.put, pA, pB, pC])))) | (refine st ?_; clear hH; first | intro W g hH | intro W hH)); refine ke ?_; refine ko 15 ?_; go_wp2_with (first | ((go_at_call 110; refine hm _ _ _ _ _ hH ?_; (clear hH; intro W X D hX hO hH); have oX := TkX.ok hX; (try simp only [List.cons_append] at hH); ((try simp only [Act.put, pA, pB, pC])))) | (refine st ?_; clear hH; first | intro W g hH | intro W hH)); refine ke ?_; refine kt [16, 17, 18] ?_; refine ko 20 ?_; go_wp2_with (first | ((go_at_call 110; refine hm _ _ _ _ _ hH ?_; (clear hH; intro W X D hX hO hH); have oX := TkX.ok hX; (try simp only [List.cons_append] at hH); ((try simp only [Act.put, pA, pB, pC])))) | (refine st ?_; clear hH; first | intro W g hH | intro W hH)); refine ke ?_; refine kt [21] ?_; refine hk_endN (by kernel_rfl) ?_)))
  all_goals go_wp2_with (refine st ?_; clear hH; first | intro W g hH | intro W hH)
  all_goals refine retC3 Tryz.results56 tab_ok 1 rfl rfl hH rfl rfl rfl rfl ?_
  all_goals exact HQ.out _ _ _ hX hO (hH.sub (SubH.drop (SubH.drop SubH.refl)))
theorem talk_i (oF : OkA F 17) (oA : OkA A 17) (a0 : CellA A 0 (.bool false)) (hm : RdC 111 #[.string b] T e)
    (hH : Hp B w0 W ((g, 51, true, hdS F A TZ 2 hop b al) :: H)) (hQ : ∀ W' X D, Hid (TkX D X T) → Hid (∀ r ∈ D, r.2.2.1 = true) → Hp B w0 W' ((g, 51, true, hdS F A TZ 2 hop b al) :: (H ++ D)) → Q (.returned (.tuple #[.agg (fls [.many X 26]).toArray, .bool true, .int .i64 e])) W') : Calls Tryz.prog 56 #[.pointer (some ⟨g, 0, none⟩)] W Q := by
  have HQ := Lib.hid hQ
  have oZ := TZ_ok
  clear hQ
  unfold hdS TZ at *
  go_enter Tryz.func56, Tryz.ntmps56
  go_wp2_with (first | ((go_at_call 111; refine hm _ _ _ _ _ hH ?_; (clear hH; intro W X D hX hO hH); have oX := TkX.ok hX; (try simp only [List.cons_append] at hH); ((try simp only [Act.put, pA, pB, pC])))) | (refine st ?_; clear hH; first | intro W g hH | intro W hH))
  refine retC3 Tryz.results56 tab_ok 1 rfl rfl hH rfl rfl rfl rfl ?_
  exact HQ.out _ _ _ hX hO (hH.sub (SubH.drop (SubH.drop SubH.refl)))
def TlC (g : Nat) (S : List Seg) (T : Tk) (is : Bool) (e : Int) : Prop := ∀ (B : Nat) (w0 W : World) (H : HB) (Q : Ending → World → Prop), Hp B w0 W ((g, 51, true, S) :: H) → (∀ W' X D, Hid (TkX D X T) → Hid (∀ r ∈ D, r.2.2.1 = true) → Hp B w0 W' ((g, 51, true, S) :: (H ++ D)) → Q (.returned (.tuple #[.agg (fls [.many X 26]).toArray, .bool is, .int .i64 e])) W') → Calls Tryz.prog 56 #[.pointer (some ⟨g, 0, none⟩)] W Q
theorem swapH {r1 r2 : Nat × TypeId × Bool × List Seg} (h : Hp B w0 W (r1 :: r2 :: H)) : Hp B w0 W (r2 :: r1 :: H) := h.perm (List.Perm.swap _ _ _)
theorem say_e (oF : OkA F 17) (oA : OkA A 17) (ht : TlC g (hdS F A TZ pr hop b al) T is e) (he : (e != 0) = true) (hH : Hp B w0 W ((g, 51, true, hdS F A TZ pr hop b al) :: H))
    (hQ : ∀ W' D, Hid (∀ r ∈ D, r.2.2.1 = true) → Hp B w0 W' (H ++ D) → Q (.returned (.tuple #[.agg (fls (sdS 0 0 aZ aZ TZ 0 0 ⟨#[]⟩)).toArray, .int .i64 e])) W') : Calls Tryz.prog 20 #[.pointer (some ⟨g, 0, none⟩), .int .i64 vlan] W Q := by
  have HQ := Lib.hid hQ
  have oZ := TZ_ok
  clear hQ
  unfold hdS sdS TZ aZ at *
  go_enter Tryz.func20, Tryz.ntmps20
  go_wp2_with (first | ((go_at_call 56; refine ht _ _ _ _ _ (swapH hH) ?_; (clear hH; intro W X D hX hO hH); have oX := TkX.ok hX; (simp only [List.cons_append] at hH); replace hH := swapH hH; ((try simp only [Act.put, pA, pB, pC])))) | (refine st ?_; clear hH; first | intro W g hH | intro W hH))
  (refine iRet2 Tryz.results20 tab_ok rfl rfl hH ?_; refine ⟨_, _, rfl, rfl, rfl, ?_⟩)
  exact HQ.out _ _ hO (hH.sub (SubH.drop (SubH.drop (SubH.drop SubH.refl))))
theorem say_n (oF : OkA F 17) (oA : OkA A 17) (ht : TlC g (hdS F A TZ pr hop b al) T false 0) (hH : Hp B w0 W ((g, 51, true, hdS F A TZ pr hop b al) :: H))
    (hQ : ∀ W' D, Hid (∀ r ∈ D, r.2.2.1 = true) → Hp B w0 W' (H ++ D) → Q (.returned (.tuple #[.agg (fls (sdS 2 vlan F A TZ pr hop b)).toArray, .int .i64 0])) W') : Calls Tryz.prog 20 #[.pointer (some ⟨g, 0, none⟩), .int .i64 vlan] W Q := by
  have HQ := Lib.hid hQ
  have oZ := TZ_ok
  clear hQ
  unfold hdS sdS TZ at *
  go_enter Tryz.func20, Tryz.ntmps20
  go_wp2_with (first | ((go_at_call 56; refine ht _ _ _ _ _ (swapH hH) ?_; (clear hH; intro W X D hX hO hH); have oX := TkX.ok hX; (simp only [List.cons_append] at hH); replace hH := swapH hH; ((try simp only [Act.put, pA, pB, pC])))) | (refine st ?_; clear hH; first | intro W g hH | intro W hH))
  (refine iRet2 Tryz.results20 tab_ok rfl rfl hH ?_; refine ⟨_, _, rfl, rfl, rfl, ?_⟩)
  exact HQ.out _ _ hO (hH.sub (SubH.drop (SubH.drop (SubH.drop SubH.refl))))
theorem say_t (oF : OkA F 17) (oA : OkA A 17) (ht : TlC g (hdS F A TZ pr hop b al) T true 0) (d1 : (hop != 1) = c1) (fa : ∀ X D w, Hid (TkX D X T) → Gives Tryz.prog 57 #[.agg (fls [.many X 26]).toArray] w (.bool c2))
    (fg : ∀ X D W', Hid (TkX D X T) → Hp B w0 W' D → Gives Tryz.prog 31 #[.agg (fls (sdS 1 vlan F A X 0 0 ⟨#[]⟩)).toArray] W' (.bool c3)) (hH : Hp B w0 W ((g, 51, true, hdS F A TZ pr hop b al) :: H))
    (hQ : ∀ W' X D, Hid (TkX D X (if c1 || (c2 && !al || !c3) then Tk.z else T)) → Hid (∀ r ∈ D, r.2.2.1 = true) → Hp B w0 W' (H ++ D) → Q (.returned (.tuple #[.agg (if c1 || (c2 && !al || !c3) then fls (sdS 0 0 aZ aZ X 0 0 ⟨#[]⟩) else fls (sdS 1 vlan F A X 0 0 ⟨#[]⟩)).toArray, .int .i64 (if c1 || (c2 && !al || !c3) then 2 else 0)])) W') : Calls Tryz.prog 20 #[.pointer (some ⟨g, 0, none⟩), .int .i64 vlan] W Q := by
  have HQ := Lib.hid hQ
  have oZ := TZ_ok
  clear hQ
  have ZX := Lib.hid (fun D => TkX.z D)
  unfold hdS sdS TZ aZ at *
  cases c1; (focus (cases c2 <;> cases al <;> cases c3))
  all_goals go_enter Tryz.func20, Tryz.ntmps20
  all_goals go_wp2_with (first | ((go_at_call 56; refine ht _ _ _ _ _ (swapH hH) ?_; (clear hH; intro W X D hX hO hH); have oX := TkX.ok hX; (simp only [List.cons_append] at hH); replace hH := swapH hH; ((try simp only [Act.put, pA, pB, pC])))) | (refine st ?_; clear hH; first | intro W g hH | intro W hH))
  all_goals ((with_reducible refine regKN [] hH (SubH.keep (SubH.drop (SubH.keep SubH.nil))) (by kernel_rfl) ?_); (clear hH; intro W hH); refine kt [0, 1, 2, 3, 4, 6, 7, 8, 9] ?_; refine kl [5, 10, 11] ?_; refine kt [12] ?_; refine ko 13 ?_; go_wp2_with (refine st ?_; clear hH; first | intro W g hH | intro W hH); refine ke ?_; refine ko 14 ?_; go_wp2_with (refine st ?_; clear hH; first | intro W g hH | intro W hH); refine ke ?_; refine hk_endN (by kernel_rfl) ?_)
  all_goals go_wp2_with (first | (refine st ?_; clear hH; first | intro W g hH | intro W hH) | ((with_reducible refine callH hH ?_); refine ⟨?_, ?_, ?_⟩; rotate_left; (focus (first | (exact fa _ _ _ hX) | (exact fg _ _ _ hX (hH.sub SubI.h)))); (clear hH; first | intro W g hH | intro W hH); ((try simp only [Act.put, pA, pB, pC]))))
  all_goals (refine iRet2 Tryz.results20 tab_ok rfl rfl hH ?_; refine ⟨_, _, rfl, rfl, rfl, ?_⟩)
  all_goals first | exact HQ.out _ _ _ hX hO (hH.sub (SubH.drop (SubH.drop (SubH.drop (SubH.drop SubH.refl))))) | exact HQ.out _ _ _ (ZX.out _) hO (hH.sub (SubH.drop (SubH.drop (SubH.drop (SubH.drop SubH.refl)))))
theorem open4 (oF : OkA F 17) (oA : OkA A 17) (oM : OkA M 6) (oN : OkA N 6) (f : ∀ w, Gives Tryz.prog 53 #[.string b] w (.tuple #[.agg (fls (pS4 tos id hop pr F A al bb)).toArray, .int .i64 e])) :
    Gives Tryz.prog 17 #[.agg (fls (eS M N is p vlan 2048 b)).toArray] w (.tuple #[.agg (fls (hdS F A TZ pr hop bb al)).toArray, .int .i64 e]) := by
  refine Gives.of ?_
  have hH := Hp.refl w
  have oZ := TZ_ok
  unfold hdS eS pS4 TZ at *
  go_enter Tryz.func17, Tryz.ntmps17
  go_wp2_with (refine st ?_; clear hH; first | intro W g hH | intro W hH)
  (refine iRet2 Tryz.results17 tab_ok rfl rfl hH ?_; refine ⟨_, _, rfl, rfl, rfl, ?_⟩)
  exact ⟨rfl, hH.below⟩
theorem open6 (oF : OkA F 17) (oA : OkA A 17) (oM : OkA M 6) (oN : OkA N 6) (f : ∀ w, Gives Tryz.prog 54 #[.string b] w (.tuple #[.agg (fls (pS6 tos id pr hop F A al bb)).toArray, .int .i64 e])) :
    Gives Tryz.prog 17 #[.agg (fls (eS M N is p vlan 34525 b)).toArray] w (.tuple #[.agg (fls (hdS F A TZ pr hop bb al)).toArray, .int .i64 e]) := by
  refine Gives.of ?_
  have hH := Hp.refl w
  have oZ := TZ_ok
  unfold hdS eS pS6 TZ at *
  go_enter Tryz.func17, Tryz.ntmps17
  go_wp2_with (refine st ?_; clear hH; first | intro W g hH | intro W hH)
  (refine iRet2 Tryz.results17 tab_ok rfl rfl hH ?_; refine ⟨_, _, rfl, rfl, rfl, ?_⟩)
  exact ⟨rfl, hH.below⟩
end
end Go.Proofs.YtdnehjhijmeihaaGreat
