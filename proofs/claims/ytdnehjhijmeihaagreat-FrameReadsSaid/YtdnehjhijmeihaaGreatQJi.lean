/-
  Joined texts: Ji, Jl, Js.
-/
import Derived.Test.YtdnehjhijmeihaaGreatQJh
import Derived.Test.YtdnehjhijmeihaaGreatQGj
import Derived.Test.YtdnehjhijmeihaaGreatQJd
namespace Go.Proofs.YtdnehjhijmeihaaGreat
-- %in
open Go.ChangeShapes Go.WideShapes Go.ChangeAt Go.RowKit
set_option linter.unusedVariables false
set_option linter.unusedSimpArgs false
set_option maxRecDepth 20000
set_option maxHeartbeats 8000000
attribute [local irreducible] wpList ByteArray.extract Int.decLt

/-- what came of reading a talk -/
def tailR (T : Tk) (e hop vlan : Int) (al c2 c3 : Bool) (f a : Ad) : Res := if e ≠ 0 then Res.z e else if (hop != 1 || (c2 && !al || !c3)) = true then Res.z 2 else ⟨1, vlan, f, a, T, 0, 0, ⟨#[]⟩, 0⟩
section
variable {w : World} {b d body : ByteArray} {f a : Ad} {al is tg c1 c2 c3 c4 cG cA : Bool} {pr hop vlan e tos id : Int} {Wd : Nat} {K12 ty : Int} {T : Tk} {r : Res}
theorem rr_err (f1 : ∀ w, Gives Tryz.prog 21 #[.string b] w (.int .i64 e)) (he : (e != 0) = true) : Gives Tryz.prog 7 #[.string b] w (.tuple #[.agg (fls (sdS 0 0 aZ aZ TZ 0 0 ⟨#[]⟩)).toArray, .int .i64 e]) := by
  refine Gives.of ?_
  have hH := Hp.refl w
  unfold sdS aZ TZ
  go_enter Tryz.func7, Tryz.ntmps7
  go_wp2_with (first | (refine st ?_; clear hH; (first | intro W g hH | intro W hH)))
  (refine iRet2 Tryz.results7 tab_ok rfl rfl hH ?_; refine ⟨_, _, rfl, rfl, rfl, ?_⟩)
  exact ⟨rfl, hH.below⟩
/-- where the kind stands, and what follows -/
structure TagC (b : ByteArray) (tg : Bool) (K12 : Int) (Wd : Nat) (ty vlan : Int) : Prop where
  f1 : ∀ w, Gives Tryz.prog 21 #[.string b] w (.int .i64 0)
  f2 : ∀ w, Gives Tryz.prog 22 #[.string (b.extract 12 14)] w (.int .u64 K12)
  f3 : ∀ w, Gives Tryz.prog 22 #[.string (b.extract 14 16)] w (.int .u64 Wd)
  f4 : ∀ w, Gives Tryz.prog 22 #[.string (b.extract (if tg then 16 else 12) (if tg then 18 else 14))] w (.int .u64 ty)
  hW : Wd < 65536
  ht : 0 ≤ ty ∧ ty < 65536
  hK : 0 ≤ K12 ∧ K12 < 65536
  hs : b.size ≤ 250
  hl : (if tg then 18 else 14) ≤ b.size
  d1 : (K12 == 33024) = tg
  hk : tg = false → K12 = ty
  hv : vlan = if tg then ((Wd % 4096 : Nat) : Int) else 0
theorem rr_other (t : TagC b tg K12 Wd ty vlan) (d1 : (ty == 2048) = false) (d2 : (ty == 34525) = false) : Gives Tryz.prog 7 #[.string b] w (.tuple #[.agg (fls (sdS 0 vlan aZ aZ TZ 0 0 ⟨#[]⟩)).toArray, .int .i64 0]) := by
  refine Gives.of ?_
  have hH := Hp.refl w
  obtain ⟨f1, f2, f3, f4, hW, ⟨ht1, ht2⟩, ⟨hK1, hK2⟩, hs, hl, d3, hk, rfl⟩ := t
  have e1 : ((Wd : Int).tmod 4096) = ((Wd % 4096 : Nat) : Int) := by rw [Int.tmod_eq_emod_of_nonneg (by omega)]; omega
  have h2 : Wd % 4096 < 4096 := Nat.mod_lt _ (by omega)
  generalize Wd % 4096 = V at *
  unfold sdS aZ TZ
  cases tg
  all_goals simp only [if_true, if_false, Bool.false_eq_true] at f4 hl
  all_goals (try (obtain rfl := hk rfl))
  all_goals go_enter Tryz.func7, Tryz.ntmps7
  all_goals go_wp2_with (first | (refine st ?_; clear hH; (first | intro W g hH | intro W hH)) | ((with_reducible refine callH hH ?_); refine ⟨?_, ?_, ?_⟩; rotate_left; (focus (first | (with_reducible exact f2 _) | (with_reducible exact f3 _))); clear hH; (first | intro W g hH | intro W hH); ((try simp only [Act.put, pA, pB, pC]))))
  all_goals ((with_reducible refine regQ hH (by kernel_rfl) (by kernel_rfl) ?_); intro hne; (repeat (first | (go_big_quiet_want; (first | (refine qiL tab_ok rfl rfl ?_; refine ⟨_, _, rfl, rfl, ?_⟩) | (refine qiLi tab_ok rfl rfl ?_; refine ⟨_, _, _, ?_, rfl, rfl, rfl, ?_, ?_⟩; rotate_left; (focus assumption)) | (refine qBd tab_ok rfl rfl rfl rfl ?_; refine ⟨?_, ?_, ?_⟩; rotate_left; (focus (repeat (first | exact BR.nil | refine BR.one rfl rfl rfl ?_ | (refine BR.row rfl rfl rfl rfl ?_ ?_; (focus (repeat (first | exact trivial | assumption | exact OkA.z (by kernel_rfl) (by kernel_rfl) | refine ⟨rfl, ?_⟩ | refine ⟨?_, ?_⟩))))))))); (try simp only [Act.put, pA, pB, pC]); go_big_quiet_on) | go_big_quiet_step (((with_reducible apply callQ); first | (with_reducible exact f4 _))))); refine wpQuiet_nil ?_; clear hne hH; intro W hH)
  all_goals go_wp2_with (first | (refine st ?_; clear hH; (first | intro W g hH | intro W hH)))
  all_goals (refine iRet2 Tryz.results7 tab_ok rfl rfl hH ?_; refine ⟨_, _, rfl, rfl, rfl, ?_⟩)
  all_goals exact ⟨rfl, hH.below⟩
/-- the packet in it -/
def IpC (ty : Int) (body : ByteArray) (f a : Ad) (pr hop : Int) (d : ByteArray) (al : Bool) (e : Int) : Prop :=
  (ty = 2048 ∧ ∃ tos id, ∀ w, Gives Tryz.prog 23 #[.string body] w (.tuple #[.agg (fls (pS4 tos id hop pr (adL f) (adL a) al d)).toArray, .int .i64 e])) ∨
  (ty = 34525 ∧ ∃ cl fl, ∀ w, Gives Tryz.prog 24 #[.string body] w (.tuple #[.agg (fls (pS6 cl fl pr hop (adL f) (adL a) al d)).toArray, .int .i64 e]))
theorem rr_open (t : TagC b tg K12 Wd ty vlan) (hb : b.extract (if tg then 18 else 14) b.size = body) (hi : IpC ty body f a pr hop d al e) (d3 : (e != 0) = c1) (fG : ∀ w, Gives Tryz.prog 25 #[.agg (fls [.many (adL f) 17]).toArray] w (.bool c2)) (fA : ∀ w, Gives Tryz.prog 25 #[.agg (fls [.many (adL a) 17]).toArray] w (.bool c3)) (hc : (c1 || (c2 || !c3)) = true) :
    Gives Tryz.prog 7 #[.string b] w (.tuple #[.agg (fls (sdS 0 (if c1 || c2 then 0 else vlan) aZ aZ TZ 0 0 ⟨#[]⟩)).toArray, .int .i64 (if c1 then e else if c2 then 2 else 0)]) := by
  refine Gives.of ?_
  have hH := Hp.refl w
  obtain ⟨f1, f2, f3, f4, hW, ⟨ht1, ht2⟩, ⟨hK1, hK2⟩, hs, hl, d4, hk, rfl⟩ := t
  have e1 : ((Wd : Int).tmod 4096) = ((Wd % 4096 : Nat) : Int) := by rw [Int.tmod_eq_emod_of_nonneg (by omega)]; omega
  have h2 : Wd % 4096 < 4096 := Nat.mod_lt _ (by omega)
  generalize Wd % 4096 = V at *
  have oF := adL_ok f
  have oA := adL_ok a
  have hb' := Lib.hid hb
  cases c1; (focus (cases c2; (focus (cases c3; rotate_left; (focus (cases hc))))))
  all_goals rcases hi with ⟨rfl, tos, id, hi⟩ | ⟨rfl, cl, fl, hi⟩
  all_goals cases tg
  all_goals simp only [if_true, if_false, Bool.false_eq_true] at f4 hl hb
  all_goals (try (obtain rfl := hk rfl))
  all_goals subst hb
  all_goals unfold sdS aZ TZ
  all_goals (first | unfold pS4 at hi | unfold pS6 at hi)
  all_goals go_enter Tryz.func7, Tryz.ntmps7
  all_goals go_wp2_with (first | (refine st ?_; clear hH; (first | intro W g hH | intro W hH)) | ((with_reducible refine callH hH ?_); refine ⟨?_, ?_, ?_⟩; rotate_left; (focus (first | (with_reducible exact f2 _) | (with_reducible exact f3 _))); clear hH; (first | intro W g hH | intro W hH); ((try simp only [Act.put, pA, pB, pC]))))
  all_goals ((with_reducible refine regQ hH (by kernel_rfl) (by kernel_rfl) ?_); intro hne; (repeat (first | (go_big_quiet_want; (first | (refine qiL tab_ok rfl rfl ?_; refine ⟨_, _, rfl, rfl, ?_⟩) | (refine qiLi tab_ok rfl rfl ?_; refine ⟨_, _, _, ?_, rfl, rfl, rfl, ?_, ?_⟩; rotate_left; (focus assumption)) | (refine qBd tab_ok rfl rfl rfl rfl ?_; refine ⟨?_, ?_, ?_⟩; rotate_left; (focus (repeat (first | exact BR.nil | refine BR.one rfl rfl rfl ?_ | (refine BR.row rfl rfl rfl rfl ?_ ?_; (focus (repeat (first | exact trivial | assumption | exact OkA.z (by kernel_rfl) (by kernel_rfl) | refine ⟨rfl, ?_⟩ | refine ⟨?_, ?_⟩))))))))); (try simp only [Act.put, pA, pB, pC]); go_big_quiet_on) | go_big_quiet_step (((with_reducible apply callQ); first | (with_reducible exact f4 _))))); refine wpQuiet_nil ?_; clear hne hH; intro W hH)
  all_goals go_wp2_with (first | (refine st ?_; clear hH; (first | intro W g hH | intro W hH)) | ((with_reducible refine callH hH ?_); refine ⟨?_, ?_, ?_⟩; rotate_left; (focus (first | (with_reducible exact hi _))); clear hH; (first | intro W g hH | intro W hH); ((try simp only [Act.put, pA, pB, pC]))))
  all_goals ((with_reducible refine regKN [] hH (SubH.keep SubH.nil) (by kernel_rfl) ?_); (clear hH; intro W hH); refine kt [0, 2, 4, 6, 8, 10, 12] ?_; refine kl [1] ?_; refine kt [13] ?_; refine kl [3, 5, 7, 9, 11] ?_; refine ko 14 ?_; go_wp2_with (first | (refine st ?_; clear hH; (first | intro W g hH | intro W hH))); refine ke ?_; refine kt [15] ?_; refine ko 16 ?_; go_wp2_with (first | (refine st ?_; clear hH; (first | intro W g hH | intro W hH))); refine ke ?_; refine kt [17] ?_; refine ko 18 ?_; go_wp2_with (first | (refine st ?_; clear hH; (first | intro W g hH | intro W hH))); refine ke ?_; refine kt [19] ?_; refine ko 20 ?_; go_wp2_with (first | (refine st ?_; clear hH; (first | intro W g hH | intro W hH))); refine ke ?_; refine kt [21] ?_; refine ko 22 ?_; go_wp2_with (first | (refine st ?_; clear hH; (first | intro W g hH | intro W hH))); refine ke ?_; refine kt [23, 24] ?_; refine hk_endN (by kernel_rfl) ?_)
  all_goals go_wp2_with (first | (refine st ?_; clear hH; (first | intro W g hH | intro W hH)))
  all_goals (refine iRet2 Tryz.results7 tab_ok rfl rfl hH ?_; refine ⟨_, _, rfl, rfl, rfl, ?_⟩)
  all_goals exact ⟨rfl, hH.below⟩
theorem nmL {B : Nat} {w0 W : World} {H : HB} (h : Hp B w0 W H) : ∃ L, L = H ∧ Hp B w0 W L := ⟨H, rfl, h⟩
theorem macL_cell {k : Nat} (hg : groupA a.v a.b = true) (h : k < 6) : CellA (macL a) k (.int .u8 (mN a k : Int)) := by
  unfold CellA macL mN macN
  rw [if_pos hg, List.getElem?_map]
  cases a.v <;> match k, h with
    | 0, _ => rfl
    | 1, _ => rfl
    | 2, _ => rfl
    | 3, _ => rfl
    | 4, _ => rfl
    | 5, _ => rfl
theorem macL_ok : OkA (macL a) 6 := by
  refine ⟨?_, fun v hv => by obtain ⟨n, _, rfl⟩ := List.mem_map.1 hv; rfl⟩
  unfold macL macN
  split
  · split <;> simp
  · simp
/-- what the reference does behind the loop -/
def OutC (b d : ByteArray) (f a : Ad) (pr hop vlan : Int) (al is : Bool) (r : Res) : Prop :=
  ((a.v = true ∧ ((pr == 58) = false ∨ is = false) ∨ a.v = false ∧ (pr == 2) = false) ∧ r = ⟨2, vlan, f, a, Tk.z, pr, hop, d, 0⟩) ∨
  ∃ T e c2 c3, (a.v = true ∧ pr = 58 ∧ is = true ∧ (e = 0 → T.v6 = true) ∧ RdC 28 #[.string d, .agg (fls [.many (adL f) 17]).toArray, .agg (fls [.many (adL a) 17]).toArray] T e ∨ a.v = false ∧ pr = 2 ∧ (e = 0 → T.v6 = false) ∧ RdC 29 #[.string d] T e) ∧
    (T.v6 || decide (1 < T.ver)) = c2 ∧ (e = 0 → ∀ B w0 X D W', Hid (TkX D X T) → Hp B w0 W' D → Gives Tryz.prog 13 #[.agg (fls (sdS 1 vlan (adL f) (adL a) X 0 0 ⟨#[]⟩)).toArray] W' (.bool c3)) ∧ r = tailR T e hop vlan al c2 c3 f a
/-- what rr_say shows, of one kind of packet, with a tag or without -/
def SayP (ty : Int) (tg : Bool) : Prop := ∀ (w : World) (b d body : ByteArray) (f a : Ad) (al is : Bool) (pr hop vlan : Int) (Wd : Nat) (K12 : Int) (r : Res) (t : TagC b tg K12 Wd ty vlan) (hb : b.extract (if tg then 18 else 14) b.size = body) (hi : IpC ty body f a pr hop d al 0) (hav : a.v = decide (ty = 34525)) (fG : ∀ w, Gives Tryz.prog 25 #[.agg (fls [.many (adL f) 17]).toArray] w (.bool false)) (fA : ∀ w, Gives Tryz.prog 25 #[.agg (fls [.many (adL a) 17]).toArray] w (.bool true)) (hg : groupA a.v a.b = true)
    (fM : ∀ w, Gives Tryz.prog 26 #[.agg (fls [.many (adL a) 17]).toArray] w (.tuple #[.agg (fls [.many (macL a) 6]).toArray, .bool true])) (fi : ∀ w, Gives Tryz.prog 27 #[.string d] w (.bool is))
    (hr : (∃ j, j < 6 ∧ mN a j ≠ by4 b j) ∧ r = Res.z 2 ∨ (∀ j, j < 6 → mN a j = by4 b j) ∧ OutC b d f a pr hop vlan al is r),
    Calls Tryz.prog 7 #[.string b] w (FPost w r)
/-- the walk, kept once -/
theorem sayW {P : Prop} (h : P := by
  intro w b d body f a al is pr hop vlan Wd K12 r t hb hi hav fG fA hg fM fi hr
  have hH := Hp.refl w
  obtain ⟨f1, f2, f3, f4, hW, ⟨ht1, ht2⟩, ⟨hK1, hK2⟩, hs, hl, d4, hk, rfl⟩ := t
  have e1 : ((Wd : Int).tmod 4096) = ((Wd % 4096 : Nat) : Int) := by rw [Int.tmod_eq_emod_of_nonneg (by omega)]; omega
  have h2 : Wd % 4096 < 4096 := Nat.mod_lt _ (by omega)
  have hx := Lib.hid (fun k (hk : k < 6) => by4_ix (s := b) (i := k) (by split at hl <;> omega))
  have hm := Lib.hid (fun k (hk : k < 6) => macL_cell (a := a) hg hk)
  have HR := Lib.hid hr
  clear hr
  generalize Wd % 4096 = V at *
  have oF := adL_ok f
  have oA := adL_ok a
  have a0 := adL_0 a
  have oM := macL_ok (a := a)
  have ZX := Lib.hid (fun D => TkX.z D)
  rcases hi with ⟨hty, tos, id, hi⟩ | ⟨hty, cl, fl, hi⟩
  all_goals (first | (exfalso; revert hty; decide) | clear hty)
  all_goals simp only [if_true, if_false, Bool.false_eq_true] at f4 hl hb HR
  all_goals (try (obtain rfl := hk rfl))
  all_goals subst hb
  all_goals (first | unfold pS4 at hi | unfold pS6 at hi)
  all_goals (first | (have hav : a.v = false := hav) | (have hav : a.v = true := hav))
  all_goals rw [hav] at a0
  all_goals have HAV := Lib.hid hav
  all_goals clear hav hg
  all_goals go_enter Tryz.func7, Tryz.ntmps7
  all_goals go_wp2_with (first | (refine st ?_; clear hH; (first | intro W g hH | intro W hH)) | ((with_reducible refine callH hH ?_); refine ⟨?_, ?_, ?_⟩; rotate_left; (focus (first | (with_reducible exact f2 _) | (with_reducible exact f3 _))); clear hH; (first | intro W g hH | intro W hH); ((try simp only [Act.put, pA, pB, pC]))))
  all_goals ((with_reducible refine regQ hH (by kernel_rfl) (by kernel_rfl) ?_); intro hne; (repeat (first | (go_big_quiet_want; (first | (refine qiL tab_ok rfl rfl ?_; refine ⟨_, _, rfl, rfl, ?_⟩) | (refine qiLi tab_ok rfl rfl ?_; refine ⟨_, _, _, ?_, rfl, rfl, rfl, ?_, ?_⟩; rotate_left; (focus assumption)) | (refine qBd tab_ok rfl rfl rfl rfl ?_; refine ⟨?_, ?_, ?_⟩; rotate_left; (focus (repeat (first | exact BR.nil | refine BR.one rfl rfl rfl ?_ | (refine BR.row rfl rfl rfl rfl ?_ ?_; (focus (repeat (first | exact trivial | assumption | exact OkA.z (by kernel_rfl) (by kernel_rfl) | refine ⟨rfl, ?_⟩ | refine ⟨?_, ?_⟩))))))))); (try simp only [Act.put, pA, pB, pC]); go_big_quiet_on) | go_big_quiet_step (((with_reducible apply callQ); first | (with_reducible exact f4 _))))); refine wpQuiet_nil ?_; clear hne hH; intro W hH)
  all_goals go_wp2_with (first | (refine st ?_; clear hH; (first | intro W g hH | intro W hH)) | ((with_reducible refine callH hH ?_); refine ⟨?_, ?_, ?_⟩; rotate_left; (focus (first | (with_reducible exact hi _))); clear hH; (first | intro W g hH | intro W hH); ((try simp only [Act.put, pA, pB, pC]))))
  all_goals ((with_reducible refine regKN [] hH (SubH.keep SubH.nil) (by kernel_rfl) ?_); (clear hH; intro W hH); refine kt [0, 2, 4, 6, 8, 10, 12] ?_; refine kl [1] ?_; refine kt [13] ?_; refine kl [3, 5, 7, 9, 11] ?_; refine ko 14 ?_; go_wp2_with (first | (refine st ?_; clear hH; (first | intro W g hH | intro W hH))); refine ke ?_; refine kt [15] ?_; refine ko 16 ?_; go_wp2_with (first | (refine st ?_; clear hH; (first | intro W g hH | intro W hH))); refine ke ?_; refine kt [17] ?_; refine ko 18 ?_; go_wp2_with (first | (refine st ?_; clear hH; (first | intro W g hH | intro W hH))); refine ke ?_; refine kt [19] ?_; refine ko 20 ?_; go_wp2_with (first | (refine st ?_; clear hH; (first | intro W g hH | intro W hH))); refine ke ?_; refine kt [21] ?_; refine ko 22 ?_; go_wp2_with (first | (refine st ?_; clear hH; (first | intro W g hH | intro W hH))); refine ke ?_; refine kt [23, 24] ?_; refine hk_endN (by kernel_rfl) ?_)
  all_goals go_wp2_with (first | (refine st ?_; clear hH; (first | intro W g hH | intro W hH)))
  all_goals obtain ⟨L, hL, hL2⟩ := nmL hH
  all_goals have HL := Lib.hid hL
  all_goals clear hL hH
  all_goals (
    go_loopw [3, 19] (fun z i wr => z = .int .i64 0 ∧ ∃ k : Nat, k ≤ 6 ∧ i = .int .i64 k ∧ (∀ j, j < k → mN a j = by4 b j) ∧ Hp w.heap.size w wr L) (fun _ i _ => 6 - (intOf i).toNat)
    case atStart => exact ⟨rfl, 0, by omega, rfl, fun j h => absurd h (Nat.not_lt_zero j), hL2⟩
    case round =>
      clear hL2
      obtain ⟨rfl, k, hk6, rfl, hall, hH⟩ := hrel
      have HALL := Lib.hid hall
      clear hall
      obtain rfl := HL.out
      by_cases hlt : k < 6
      · have hix := hx.out k hlt
        have hc := hm.out k hlt
        have u1 := mN_lt a k
        have u2 := by4_lt b k
        by_cases he : mN a k = by4 b k
        · have he2 := Lib.hid he
          have d9 : ((mN a k : Int) != (by4 b k : Int)) = false := by simp; omega
          clear he
          go_wp2_with (first | (refine st ?_; clear hH; (first | intro W g hH | intro W hH)))
          (refine rq ?_; clear hH; intro W hH)
          go_wp2_with (first | (refine st ?_; clear hH; (first | intro W g hH | intro W hH)))
          refine ⟨⟨rfl, k + 1, by omega, by go_num, fun j hj => ?_, hH⟩, by simp [intOf]; omega⟩
          rcases Nat.lt_succ_iff_lt_or_eq.1 hj with h | rfl
          · exact HALL.out j h
          · exact he2.out
        · have hr : r = Res.z 2 := by
            rcases HR.out with ⟨_, h⟩ | ⟨h, _⟩
            · exact h
            · exact absurd (h k hlt) he
          have d9 : ((mN a k : Int) != (by4 b k : Int)) = true := by simp; omega
          clear he
          go_wp2_with (first | (refine st ?_; clear hH; (first | intro W g hH | intro W hH)))
          (refine rq ?_; clear hH; intro W hH)
          go_wp2_with (first | (refine st ?_; clear hH; (first | intro W g hH | intro W hH)))
          (refine iRet2 Tryz.results7 tab_ok rfl rfl hH ?_; refine ⟨_, _, rfl, rfl, rfl, ?_⟩)
          subst hr
          exact ⟨TZ, [], rfl, ⟨hH.sub SubH.nil, fun _ h => absurd h List.not_mem_nil⟩, TkX.z _⟩
      · obtain rfl : k = 6 := by omega
        rcases HR.out with ⟨⟨j, hj, hn⟩, _⟩ | ⟨_, ho⟩
        · exact absurd (HALL.out j hj) hn
        rcases ho with ⟨hn, hr⟩ | ⟨T, e, c2, c3, hk, hc2, hgd, hr⟩
        · have h58 : (pr == 58) = true ∧ is = true → a.v = false := fun ⟨h1, h2⟩ => by rcases hn with ⟨_, h | h⟩ | ⟨h, _⟩ <;> simp_all
          have h2' : a.v = false → (pr == 2) = false := fun h => by rcases hn with ⟨h', _⟩ | ⟨_, h'⟩ <;> simp_all
          rw [HAV.out] at h58 h2'
          have HRr := Lib.hid hr
          clear hn hr
          obtain ⟨p58, e58⟩ : ∃ p, (pr == 58) = p := ⟨_, rfl⟩
          obtain ⟨p2, e2⟩ : ∃ p, (pr == 2) = p := ⟨_, rfl⟩
          rw [e58] at h58
          rw [e2] at h2'
          cases p58 <;> cases is <;> cases p2
          all_goals (try (exfalso; revert h58 h2'; decide))
          all_goals clear h58 h2'
          all_goals go_wp2_with (first | (refine st ?_; clear hH; (first | intro W g hH | intro W hH)))
          all_goals (refine iRet2 Tryz.results7 tab_ok rfl rfl hH ?_; refine ⟨_, _, rfl, rfl, rfl, ?_⟩)
          all_goals (obtain rfl := HRr.out)
          all_goals exact ⟨TZ, [], rfl, ⟨hH.sub SubH.nil, fun _ h => absurd h List.not_mem_nil⟩, TkX.z _⟩
        · rcases hk with ⟨hav', rfl, rfl, hv6, hm⟩ | ⟨hav', rfl, hv6, hm⟩
          · first
            | exact absurd (hav'.symm.trans HAV.out) (by decide)
            | (clear hav'
               by_cases he : e = 0
               · subst he
                 replace hgd := hgd rfl
                 replace hv6 := hv6 rfl
                 have HRr := Lib.hid hr
                 clear hr
                 obtain ⟨c1, d1⟩ : ∃ c, (hop != 1) = c := ⟨_, rfl⟩
                 rw [hv6, Bool.true_or] at hc2
                 cases c1; (focus (cases c2 <;> cases al <;> cases c3))
                 all_goals (try (exfalso; revert hc2; decide))
                 all_goals clear hc2
                 all_goals go_wp2_with (first | ((go_at_call 28; refine hm _ _ _ _ _ hH ?_; (clear hH; intro W X D hX hO hH); have oX := TkX.ok hX; have x0 := TkX.c0 hX; have x1 := TkX.c1 hX; (rw [hv6] at x0); (try simp only [List.cons_append, List.nil_append] at hH); ((try simp only [Act.put, pA, pB, pC])))) | (refine st ?_; clear hH; (first | intro W g hH | intro W hH)))
                 all_goals ((with_reducible refine regKN [] hH (SubH.keep SubH.nil) (by kernel_rfl) ?_); (clear hH; intro W hH); refine kt [1] ?_; refine kl [0] ?_; refine ko 2 ?_; go_wp2_with (first | (refine st ?_; clear hH; (first | intro W g hH | intro W hH))); refine ke ?_; refine kt [3] ?_; refine ko 4 ?_; go_wp2_with (first | (refine st ?_; clear hH; (first | intro W g hH | intro W hH))); refine ke ?_; refine kt [5] ?_; refine ko 6 ?_; go_wp2_with (first | (refine st ?_; clear hH; (first | intro W g hH | intro W hH))); refine ke ?_; refine kt [7] ?_; refine ko 8 ?_; go_wp2_with (first | (refine st ?_; clear hH; (first | intro W g hH | intro W hH))); refine ke ?_; refine kt [9] ?_; refine ko 10 ?_; go_wp2_with (first | (refine st ?_; clear hH; (first | intro W g hH | intro W hH))); refine ke ?_; refine hk_endN (by kernel_rfl) ?_)
                 all_goals go_wp2_with (first | (refine st ?_; clear hH; (first | intro W g hH | intro W hH)) | ((with_reducible refine callH hH ?_); refine ⟨?_, ?_, ?_⟩; rotate_left; (focus (first | (exact hgd _ _ _ _ _ hX (hH.sub SubI.h)))); clear hH; (first | intro W g hH | intro W hH); ((try simp only [Act.put, pA, pB, pC]))))
                 all_goals (refine iRet2 Tryz.results7 tab_ok rfl rfl hH ?_; refine ⟨_, _, rfl, rfl, rfl, ?_⟩)
                 all_goals (have e := HRr.out; unfold tailR at e; rw [d1] at e; subst e)
                 all_goals first | exact ⟨X, D, rfl, ⟨hH.sub SubI.h, hO⟩, hX⟩ | exact ⟨TZ, D, rfl, ⟨hH.sub SubI.h, hO⟩, TkX.z D⟩
               · have de : (e != 0) = true := by simpa using he
                 have HRr := Lib.hid (show r = Res.z e by rw [hr]; unfold tailR; rw [if_pos he])
                 clear hr he hc2 hgd hv6
                 go_wp2_with (first | ((go_at_call 28; refine hm _ _ _ _ _ hH ?_; (clear hH; intro W X D hX hO hH); have oX := TkX.ok hX; (try simp only [List.cons_append, List.nil_append] at hH); ((try simp only [Act.put, pA, pB, pC])))) | (refine st ?_; clear hH; (first | intro W g hH | intro W hH)))
                 (refine iRet2 Tryz.results7 tab_ok rfl rfl hH ?_; refine ⟨_, _, rfl, rfl, rfl, ?_⟩)
                 obtain rfl := HRr.out
                 exact ⟨TZ, D, rfl, ⟨hH.sub SubI.h, hO⟩, TkX.z D⟩)
          · first
            | exact absurd (hav'.symm.trans HAV.out) (by decide)
            | (clear hav'
               by_cases he : e = 0
               · subst he
                 replace hgd := hgd rfl
                 replace hv6 := hv6 rfl
                 have HRr := Lib.hid hr
                 clear hr
                 obtain ⟨c1, d1⟩ : ∃ c, (hop != 1) = c := ⟨_, rfl⟩
                 rw [hv6, Bool.false_or] at hc2
                 cases c1; (focus (cases c2 <;> cases al <;> cases c3))
                 all_goals (try (exfalso; revert hc2; decide))
                 all_goals go_wp2_with (first | ((go_at_call 29; refine hm _ _ _ _ _ hH ?_; (clear hH; intro W X D hX hO hH); have oX := TkX.ok hX; have x0 := TkX.c0 hX; have x1 := TkX.c1 hX; (rw [hv6] at x0); (try simp only [List.cons_append, List.nil_append] at hH); ((try simp only [Act.put, pA, pB, pC])))) | (refine st ?_; clear hH; (first | intro W g hH | intro W hH)))
                 all_goals ((with_reducible refine regKN [] hH (SubH.keep SubH.nil) (by kernel_rfl) ?_); (clear hH; intro W hH); refine kt [1] ?_; refine kl [0] ?_; refine ko 2 ?_; go_wp2_with (first | (refine st ?_; clear hH; (first | intro W g hH | intro W hH))); refine ke ?_; refine kt [3] ?_; refine ko 4 ?_; go_wp2_with (first | (refine st ?_; clear hH; (first | intro W g hH | intro W hH))); refine ke ?_; refine kt [5] ?_; refine ko 6 ?_; go_wp2_with (first | (refine st ?_; clear hH; (first | intro W g hH | intro W hH))); refine ke ?_; refine kt [7] ?_; refine ko 8 ?_; go_wp2_with (first | (refine st ?_; clear hH; (first | intro W g hH | intro W hH))); refine ke ?_; refine kt [9] ?_; refine ko 10 ?_; go_wp2_with (first | (refine st ?_; clear hH; (first | intro W g hH | intro W hH))); refine ke ?_; refine hk_endN (by kernel_rfl) ?_)
                 all_goals go_wp2_with (first | (refine st ?_; clear hH; (first | intro W g hH | intro W hH)) | ((with_reducible refine callH hH ?_); refine ⟨?_, ?_, ?_⟩; rotate_left; (focus (first | (exact hgd _ _ _ _ _ hX (hH.sub SubI.h)))); clear hH; (first | intro W g hH | intro W hH); ((try simp only [Act.put, pA, pB, pC]))))
                 all_goals (refine iRet2 Tryz.results7 tab_ok rfl rfl hH ?_; refine ⟨_, _, rfl, rfl, rfl, ?_⟩)
                 all_goals (have e := HRr.out; unfold tailR at e; rw [d1] at e; subst e)
                 all_goals first | exact ⟨X, D, rfl, ⟨hH.sub SubI.h, hO⟩, hX⟩ | exact ⟨TZ, D, rfl, ⟨hH.sub SubI.h, hO⟩, TkX.z D⟩
               · have de : (e != 0) = true := by simpa using he
                 have HRr := Lib.hid (show r = Res.z e by rw [hr]; unfold tailR; rw [if_pos he])
                 clear hr he hc2 hgd hv6
                 go_wp2_with (first | ((go_at_call 29; refine hm _ _ _ _ _ hH ?_; (clear hH; intro W X D hX hO hH); have oX := TkX.ok hX; (try simp only [List.cons_append, List.nil_append] at hH); ((try simp only [Act.put, pA, pB, pC])))) | (refine st ?_; clear hH; (first | intro W g hH | intro W hH)))
                 (refine iRet2 Tryz.results7 tab_ok rfl rfl hH ?_; refine ⟨_, _, rfl, rfl, rfl, ?_⟩)
                 obtain rfl := HRr.out
                 exact ⟨TZ, D, rfl, ⟨hH.sub SubI.h, hO⟩, TkX.z D⟩))) : P := h
theorem say4f : SayP 2048 false := sayW
theorem say4t : SayP 2048 true := sayW
theorem say6f : SayP 34525 false := sayW
theorem say6t : SayP 34525 true := sayW
theorem rr_say (t : TagC b tg K12 Wd ty vlan) (hb : b.extract (if tg then 18 else 14) b.size = body) (hi : IpC ty body f a pr hop d al 0) (hav : a.v = decide (ty = 34525)) (fG : ∀ w, Gives Tryz.prog 25 #[.agg (fls [.many (adL f) 17]).toArray] w (.bool false)) (fA : ∀ w, Gives Tryz.prog 25 #[.agg (fls [.many (adL a) 17]).toArray] w (.bool true)) (hg : groupA a.v a.b = true)
    (fM : ∀ w, Gives Tryz.prog 26 #[.agg (fls [.many (adL a) 17]).toArray] w (.tuple #[.agg (fls [.many (macL a) 6]).toArray, .bool true])) (fi : ∀ w, Gives Tryz.prog 27 #[.string d] w (.bool is))
    (hr : (∃ j, j < 6 ∧ mN a j ≠ by4 b j) ∧ r = Res.z 2 ∨ (∀ j, j < 6 → mN a j = by4 b j) ∧ OutC b d f a pr hop vlan al is r) :
    Calls Tryz.prog 7 #[.string b] w (FPost w r) := by
  have h := hi
  rcases h with ⟨rfl, -⟩ | ⟨rfl, -⟩ <;> cases tg
  · exact say4f _ _ _ _ _ _ _ _ _ _ _ _ _ _ t hb hi hav fG fA hg fM fi hr
  · exact say4t _ _ _ _ _ _ _ _ _ _ _ _ _ _ t hb hi hav fG fA hg fM fi hr
  · exact say6f _ _ _ _ _ _ _ _ _ _ _ _ _ _ t hb hi hav fG fA hg fM fi hr
  · exact say6t _ _ _ _ _ _ _ _ _ _ _ _ _ _ t hb hi hav fG fA hg fM fi hr
end
end Go.Proofs.YtdnehjhijmeihaaGreat
namespace Go.Proofs.YtdnehjhijmeihaaGreat
-- %in
open Go.ChangeShapes Go.WideShapes Go.ChangeAt Go.RowKit
set_option linter.unusedVariables false
set_option linter.unusedSimpArgs false
set_option maxRecDepth 20000

theorem macN_lt {a : Ad} {n : Nat} (h : n ∈ macN a) : n < 256 := by
  have hb := bA_lt a
  unfold macN at h
  split at h
  all_goals simp only [List.mem_cons, List.not_mem_nil, or_false] at h
  all_goals rcases h with rfl | rfl | rfl | rfl | rfl | rfl
  all_goals first | exact hb _ | omega
def macB (a : Ad) : List UInt8 := (macN a).map UInt8.ofNat
theorem macL_is {a : Ad} (hg : groupA a.v a.b = true) : macL a = (macB a).map byteV := by
  unfold macL macB
  rw [if_pos hg, List.map_map]
  refine List.map_congr_left fun n hn => ?_
  have := macN_lt hn
  simp only [b8, byteV, Function.comp, UInt8.toNat_ofNat']
  rw [Nat.mod_eq_of_lt (by omega)]
theorem macB_len (a : Ad) : (macB a).length = 6 := by unfold macB macN; split <;> simp
theorem mac_neq {xs ys : List UInt8} (hx : xs.length = 6) (hy : ys.length = 6) (w : World) : (binOp .neq 40 (.agg (xs.map byteV).toArray) (.agg (ys.map byteV).toArray)).run Tryz.prog w = .ok (.bool (!(xs == ys))) w := by
  have h : (Tryz.prog.info? 5).map (·.size) = some 1 := by kernel_rfl
  have hsz : ∀ w, (sizeOf 5).run Tryz.prog w = .ok 1 w := fun w => by
    cases hq : Tryz.prog.info? 5 with
    | none => simp [hq] at h
    | some i =>
      have hs : i.size = 1 := by simpa [hq] using h
      simp [sizeOf, typeInfo, hq, hs]
  have e1 := run_equalIn_bytes (P := Tryz.prog) w 9998 _ _ 6 Tryz.underlying40 Tryz.underlying5 hsz xs ys hx hy
  have hc : (fun b : UInt8 => byteV b) = Extern.Stop.cell := rfl
  simp only [hc] at *
  simp only [binOp, Sem.run_bind]
  simp [go_sem]
  unfold Op.equal
  have e2 : (Op.equalIn Op.maxDepth 40 (.agg (xs.map Extern.Stop.cell).toArray) (.agg (ys.map Extern.Stop.cell).toArray)).run Tryz.prog w = .ok (xs == ys) w := e1
  have hc2 : (byteV : UInt8 → Value) = Extern.Stop.cell := rfl
  try rw [hc2]
  rw [e2]
  rfl
theorem macB_get {a : Ad} {j : Nat} (h : j < 6) : ((macB a)[j]'(by rw [macB_len]; exact h)).toNat = mN a j := by
  have hl : j < (macN a).length := by have := macB_len a; unfold macB at this; rw [List.length_map] at this; omega
  unfold macB mN
  rw [List.getElem_map, List.getElem?_eq_getElem hl]
  have := macN_lt (a := a) (List.getElem_mem hl)
  simp only [UInt8.toNat_ofNat', Option.getD_some]
  exact Nat.mod_eq_of_lt (by omega)
open Classical in
theorem mac_ne {a : Ad} {b : ByteArray} (hb : 14 ≤ b.size) : (!(macB a == pad6 (b.extract 0 6))) = decide (∃ j, j < 6 ∧ mN a j ≠ by4 b j) := by
  have hl := size_toList b
  have hp : pad6 (b.extract 0 6) = b.data.toList.take 6 := by
    unfold pad6
    rw [extract_size (by omega) (by omega), toList_extract]; simp
  rw [hp, Bool.eq_iff_iff]
  simp only [Bool.not_eq_true', beq_eq_false_iff_ne, decide_eq_true_eq]
  constructor
  · intro hn
    apply Classical.byContradiction
    intro hx
    apply hn
    refine List.ext_getElem (by rw [macB_len, List.length_take]; omega) fun j h1 h2 => ?_
    have h6 : j < 6 := by rw [macB_len] at h1; exact h1
    apply UInt8.toNat.inj
    rw [macB_get h6, List.getElem_take]
    have : mN a j = by4 b j := Classical.byContradiction fun h => hx ⟨j, h6, h⟩
    rw [this]; unfold by4; rw [List.getElem?_eq_getElem (by omega)]; rfl
  · rintro ⟨j, hj, hn⟩ he
    apply hn
    rw [← macB_get hj]
    have : (macB a)[j]'(by rw [macB_len]; exact hj) = (b.data.toList.take 6)[j]'(by rw [List.length_take]; omega) := by simp only [he]
    rw [this, List.getElem_take]
    unfold by4; rw [List.getElem?_eq_getElem (by omega)]; rfl
end Go.Proofs.YtdnehjhijmeihaaGreat
namespace Go.Proofs.YtdnehjhijmeihaaGreat
-- %in
open Go.ChangeShapes Go.WideShapes Go.ChangeAt Go.RowKit
set_option linter.unusedVariables false
set_option linter.unusedSimpArgs false
set_option maxRecDepth 20000

theorem valN_le {u c : Nat} (hu : 0 < u) : valN u c ≤ c + 2048 * u := by
  unfold valN
  split
  · omega
  · have h1 : c % u < u := Nat.mod_lt _ hu
    have h2 : 2 ^ (c / u % 8 + 3) ≤ 2 ^ 10 := Nat.pow_le_pow_right (by omega) (by omega)
    have h3 : (c % u + u) * 2 ^ (c / u % 8 + 3) ≤ (2 * u) * 1024 := Nat.mul_le_mul (by omega) h2
    omega
theorem ex8_in {n : Int} (h : ex8 n = true) : inI n := by
  unfold ex8 at h
  simp only [Bool.and_eq_true, decide_eq_true_eq, beq_iff_eq] at h
  have h1 := valN_le (u := 16) (c := cod8 n) (by omega)
  have h2 := cod8_le n
  unfold inI; omega
theorem good4_ok {T : Tk} (h : good4 T = true) : T.Ok := by
  rcases good4_cases h with rfl | ⟨r, g, rfl, r1, r2, hg⟩ | ⟨g, k, v, rfl, hg, hkv⟩ | ⟨R, rfl, hR, hl⟩ | ⟨resp, g, q, rob, ev, src, rfl, h1, h2, h3, h4, h5, hg, h6⟩
  · refine ⟨?_, ?_, ?_, ?_, ?_, fun r hr => absurd hr List.not_mem_nil⟩ <;> (unfold inI; simp only; omega)
  · refine ⟨?_, ?_, ?_, ?_, ?_, fun r hr => absurd hr List.not_mem_nil⟩ <;> (unfold inI; simp only; omega)
  · refine ⟨?_, ?_, ?_, ?_, ?_, fun r hr => absurd hr List.not_mem_nil⟩ <;> (unfold inI; simp only; omega)
  · refine ⟨?_, ?_, ?_, ?_, ?_, fun r hr => ?_⟩
    rotate_left 5
    · have := rcOk4_all (List.all_eq_true.1 hR r hr)
      unfold inI; omega
    all_goals (unfold inI; simp only; omega)
  · have a1 := ex8_in h1
    have a2 := ex8_in h2
    unfold inI at a1 a2
    refine ⟨?_, ?_, ?_, ?_, ?_, fun r hr => absurd hr List.not_mem_nil⟩ <;> (unfold inI; simp only; omega)
theorem good6_ok {T : Tk} (h : good6 T = true) : T.Ok := by
  obtain ⟨v6, ver, kind, resp, g, quiet, rob, every, src, recs⟩ := T
  unfold good6 at h
  simp only at h
  split at h
  · cases h
  rename_i h1
  split at h
  · cases h
  rename_i h2
  have a1 : 1 ≤ ver ∧ ver ≤ 2 ∧ 1 ≤ kind ∧ kind ≤ 3 := by
    simp at h1; omega
  have a2 : ¬ (ver = 2 ∧ kind = 1) → rob = 0 ∧ every = 0 := fun hn => by
    simp only [Bool.or_eq_true, Bool.and_eq_true, Bool.not_eq_true', Bool.and_eq_false_iff, beq_eq_false_iff_ne, bne_iff_ne, decide_eq_true_eq] at h2
    constructor <;> (apply Classical.byContradiction; intro hh; apply h2; left; refine ⟨by omega, ?_⟩; simp [hh])
  have a3 : kind ≠ 1 → resp = 0 := fun hn => by
    simp only [Bool.or_eq_true, Bool.and_eq_true, bne_iff_ne] at h2
    apply Classical.byContradiction; intro hh; exact h2 (.inr ⟨hn, hh⟩)
  by_cases hr : ver = 2 ∧ kind = 2
  · rw [if_pos (by simpa using hr)] at h
    simp only [Bool.and_eq_true] at h
    have b2 := a2 (by omega)
    have b3 := a3 (by omega)
    refine ⟨?_, ?_, ?_, ?_, ?_, fun r hr => ?_⟩
    rotate_left 5
    · have := List.all_eq_true.1 h.1 r hr
      unfold rcOk6 at this
      simp only [Bool.and_eq_true, decide_eq_true_eq] at this
      unfold inI; omega
    all_goals (unfold inI; simp only; omega)
  · rw [if_neg (by simpa using hr)] at h
    have hn : recs = [] := by
      cases recs with
      | nil => rfl
      | cons r l => simp at h
    subst hn
    rw [if_neg (by simp)] at h
    have hk : kind ≠ 1 ∨ kind = 1 := by omega
    rcases hk with hk | hk
    · have b2 := a2 (by omega)
      have b3 := a3 hk
      refine ⟨?_, ?_, ?_, ?_, ?_, fun r hr => absurd hr List.not_mem_nil⟩ <;> (unfold inI; simp only; omega)
    · rw [if_neg (by simp; omega)] at h
      split at h
      · cases h
      rename_i h4
      have r0 : 0 ≤ resp := by simp at h4; omega
      by_cases hv : ver = 1
      · rw [if_pos (by simpa using hv)] at h
        have b2 := a2 (by omega)
        have : resp < 65536 := by simpa using h
        refine ⟨?_, ?_, ?_, ?_, ?_, fun r hr => absurd hr List.not_mem_nil⟩ <;> (unfold inI; simp only; omega)
      · rw [if_neg (by simpa using hv)] at h
        simp only [Bool.and_eq_true, decide_eq_true_eq, beq_iff_eq] at h
        have c1 := valN_le (u := 4096) (c := cod16 resp) (by omega)
        have c2 := cod16_le resp
        have c3 := valN_le (u := 16) (c := cod8 every) (by omega)
        have c4 := cod8_le every
        obtain ⟨⟨⟨⟨⟨⟨e1, e2⟩, e3⟩, e4⟩, e5⟩, -⟩, -⟩ := h
        generalize valN 4096 (cod16 resp) = y1 at *
        generalize valN 16 (cod8 every) = y2 at *
        refine ⟨?_, ?_, ?_, ?_, ?_, fun r hr => absurd hr List.not_mem_nil⟩ <;> (unfold inI; simp only; omega)
theorem goodT_ok {T : Tk} (h : goodT T = true) : T.Ok := by
  unfold goodT at h
  split at h
  · exact good6_ok h
  · exact good4_ok h
end Go.Proofs.YtdnehjhijmeihaaGreat
