/-
  Joined texts: Tg, Thi.
-/
import Derived.Test.YtdnehjhijmeihaaGreatQTk
import Derived.Test.YtdnehjhijmeihaaGreatQCd
import Derived.Test.YtdnehjhijmeihaaGreatQSl
namespace Go.Proofs.YtdnehjhijmeihaaGreat
open Go.ChangeShapes Go.WideShapes Go.ChangeAt Go.RowKit
set_option linter.unusedVariables false
set_option linter.unusedSimpArgs false
set_option maxRecDepth 20000
attribute [local irreducible] wpList
def grp4 (a : Ad) : Bool := !a.v && goodA a.v a.b && groupA a.v a.b
def grp6 (a : Ad) : Bool := a.v && groupA a.v a.b
def zero6 (a : Ad) : Bool := a.v && zeroA a.b
def src4 (a : Ad) : Bool := !a.v && goodA a.v a.b
def srcs4 (L : List Ad) : Bool := L.all src4 && decide (L.length < 65)
def srcs6 (L : List Ad) : Bool := L.all (·.v) && decide (L.length < 65)
theorem exists_code8 (n : Nat) : ∃ r, IsCode 16 n r := exists_code 16 (by omega) n
theorem exists_code16 (n : Nat) : ∃ r, IsCode 4096 n r := exists_code 4096 (by omega) n
noncomputable def cod8 (n : Int) : Nat := Classical.choose (exists_code8 n.toNat)
noncomputable def cod16 (n : Int) : Nat := Classical.choose (exists_code16 n.toNat)
theorem cod8_is (n : Int) : IsCode 16 n.toNat (cod8 n) := Classical.choose_spec (exists_code8 n.toNat)
theorem cod16_is (n : Int) : IsCode 4096 n.toNat (cod16 n) := Classical.choose_spec (exists_code16 n.toNat)
theorem cod8_le (n : Int) : cod8 n ≤ 255 := by have := (cod8_is n).1; omega
theorem cod16_le (n : Int) : cod16 n ≤ 65535 := by have := (cod16_is n).1; omega
noncomputable def ex8 (n : Int) : Bool := decide (0 ≤ n) && ((valN 16 (cod8 n) : Int) == n)
noncomputable def ex16 (n : Int) : Bool := decide (0 ≤ n) && ((valN 4096 (cod16 n) : Int) == n)
section
variable {w : World} {p p' : Option Addr} {c c' : Nat} {L M : List Ad} {a : Ad} {n : Int}
theorem rv8 {r : Nat} (h : r ≤ 255) : Gives Tryz.prog 117 #[.int .i64 (r : Int)] w (.int .i64 (valN 16 r : Int)) := by
  have := rValue8_any (c := (r : Int)) (w := w)
  rwa [clampN_in h] at this
theorem rv16 {r : Nat} (h : r ≤ 65535) : Gives Tryz.prog 116 #[.int .i64 (r : Int)] w (.int .i64 (valN 4096 r : Int)) := by
  have := rValue16_any (c := (r : Int)) (w := w)
  rwa [clampN_in h] at this
theorem rexact_any (hn : inI n) : Gives Tryz.prog 143 #[.int .i64 n] w (.bool (ex8 n)) := by
  have h1 : ∀ w, Gives Tryz.prog 94 #[.int .i64 n] w (.int .i64 (cod8 n : Int)) := fun w => rCode8_any (cod8_is n) hn
  have h2 : ∀ w, Gives Tryz.prog 117 #[.int .i64 (cod8 n : Int)] w (.int .i64 (valN 16 (cod8 n) : Int)) := fun w => rv8 (cod8_le n)
  unfold ex8
  generalize (valN 16 (cod8 n) : Int) = v at *
  generalize (cod8 n : Int) = k at *
  refine Gives.of ?_
  have hH := Hp.refl w
  by_cases h0 : 0 ≤ n
  · have d0 : decide (0 ≤ n) = true := decide_eq_true h0
    rw [d0]
    go_enter Tryz.func143, Tryz.ntmps143
    go_wp2_with (refine st ?_; clear hH; first | intro W g hH | intro W hH)
    go_ret
    exact ⟨by simp, hH.below⟩
  · have d0 : decide (0 ≤ n) = false := decide_eq_false h0
    rw [d0]
    go_enter Tryz.func143, Tryz.ntmps143
    go_wp2_with (refine st ?_; clear hH; first | intro W g hH | intro W hH)
    go_ret
    exact ⟨by simp, hH.below⟩
theorem rg_segs (a : Ad) : addrV a.v a.b = (fls [.many (adL a) 17]).toArray := (addr_segs1 a.v a.b).symm
theorem rGroup4_any : Gives Tryz.prog 68 #[.agg (fls [.many (adL a) 17]).toArray] w (.bool (grp4 a)) := by
  have f1 : ∀ w, Gives Tryz.prog 37 #[.agg (fls [.many (adL a) 17]).toArray] w (.bool (goodA a.v a.b)) := fun w => by rw [← rg_segs]; exact raGood_any a.h
  have f2 : ∀ w, Gives Tryz.prog 25 #[.agg (fls [.many (adL a) 17]).toArray] w (.bool (groupA a.v a.b)) := fun w => by rw [← rg_segs]; exact raGroup_any a.h
  have oA := adL_ok a
  have cA := adL_0 a
  unfold grp4
  generalize adL a = A at *
  generalize goodA a.v a.b = x at *
  generalize groupA a.v a.b = y at *
  generalize a.v = v at *
  refine Gives.of ?_
  have hH := Hp.refl w
  go_enter Tryz.func68, Tryz.ntmps68
  cases v <;> cases x <;> cases y
  all_goals
    go_wp2_with (refine st ?_; clear hH; first | intro W g hH | intro W hH)
    go_ret
    exact ⟨by simp, hH.below⟩
theorem rGroup6_any : Gives Tryz.prog 114 #[.agg (fls [.many (adL a) 17]).toArray] w (.bool (grp6 a)) := by
  have f2 : ∀ w, Gives Tryz.prog 25 #[.agg (fls [.many (adL a) 17]).toArray] w (.bool (groupA a.v a.b)) := fun w => by rw [← rg_segs]; exact raGroup_any a.h
  have oA := adL_ok a
  have cA := adL_0 a
  unfold grp6
  generalize adL a = A at *
  generalize groupA a.v a.b = y at *
  generalize a.v = v at *
  refine Gives.of ?_
  have hH := Hp.refl w
  go_enter Tryz.func114, Tryz.ntmps114
  cases v <;> cases y
  all_goals
    go_wp2_with (refine st ?_; clear hH; first | intro W g hH | intro W hH)
    go_ret
    exact ⟨by simp, hH.below⟩
theorem rzero6_any : Gives Tryz.prog 115 #[.agg (fls [.many (adL a) 17]).toArray] w (.bool (zero6 a)) := by
  have f2 : ∀ w, Gives Tryz.prog 40 #[.agg (fls [.many (adL a) 17]).toArray] w (.bool (zeroA a.b)) := fun w => by rw [← rg_segs]; exact raZero_any a.h
  have oA := adL_ok a
  have cA := adL_0 a
  unfold zero6
  generalize adL a = A at *
  generalize zeroA a.b = y at *
  generalize a.v = v at *
  refine Gives.of ?_
  have hH := Hp.refl w
  go_enter Tryz.func115, Tryz.ntmps115
  cases v <;> cases y
  all_goals
    go_wp2_with (refine st ?_; clear hH; first | intro W g hH | intro W hH)
    go_ret
    exact ⟨by simp, hH.below⟩
theorem all_snoc {α : Type} {f : α → Bool} {L : List α} {j : Nat} (h : (L.take j).all f = true) (hj : j < L.length) (hx : f L[j] = true) : (L.take (j + 1)).all f = true := by
  rw [← List.take_append_getElem hj, List.all_append, h]
  simp [hx]
theorem all_no {α : Type} {f : α → Bool} {L : List α} {j : Nat} (hj : j < L.length) (hx : f L[j] = false) : L.all f = false := by
  rw [Bool.eq_false_iff]
  intro h
  have := List.all_eq_true.1 h _ (List.getElem_mem hj)
  rw [hx] at this
  cases this
theorem rSrcs4_any (h : AdsAt w p L) : Gives Tryz.prog 142 #[.slice p L.length c] w (.bool (srcs4 L)) := by
  have hl := h.1
  have HA := Lib.hid h
  clear h
  obtain ⟨res, hres⟩ : ∃ r, srcs4 L = r := ⟨_, rfl⟩
  rw [hres]
  have HR := Lib.hid hres
  clear hres
  refine Gives.of ?_
  have hH := Hp.refl w
  go_enter Tryz.func142, Tryz.ntmps142
  go_wp2_with (refine st ?_; clear hH; first | intro W g hH | intro W hH)
  go_loopw [3] (fun i wr => ∃ j : Nat, i = .int .i64 (j : Int) ∧ j ≤ L.length ∧ (L.take j).all src4 = true ∧ Hp w.heap.size w wr []) (fun i _ => L.length - (intOf i).toNat)
  case atStart => exact ⟨0, rfl, by omega, rfl, hH⟩
  case round =>
    clear hH
    obtain ⟨j, rfl, hj, hT, hH⟩ := hrel
    by_cases hjl : j < L.length
    · obtain ⟨q, hq, fA, fC⟩ := HA.out.get hjl
      subst hq
      have dj : decide ((j : Int) < (L.length : Int)) = true := decide_eq_true (by omega)
      have HS := Lib.hid (fun e => all_snoc hT hjl e)
      have HN := Lib.hid (show src4 L[j] = false → res = false from fun e => by rw [← HR.out]; unfold srcs4; rw [all_no hjl e]; rfl)
      clear hT HA
      have oA := adL_ok L[j]
      have fG : ∀ w, Gives Tryz.prog 37 #[.agg (fls [.many (adL L[j]) 17]).toArray] w (.bool (goodA L[j].v L[j].b)) := fun w => by rw [← rg_segs]; exact raGood_any L[j].h
      unfold src4 at HN HS
      generalize adL L[j] = A at *
      generalize goodA L[j].v L[j].b = b at *
      generalize L[j].v = v at *
      cases v
      rotate_left
      · have e := HN.out rfl
        subst e
        clear HS HN
        go_wp2_with (first | ((refine gL rfl ?_; refine hLo tab_ok rfl ?_ rfl hH rfl rfl ?_; (focus first|exact wN rfl|exact rfl); refine ⟨_, fC, ?_⟩; (clear hH; (first | intro W g hH | intro W hH); (try simp only [Act.put, pA, pB, pC])))) | (refine st ?_; clear hH; first | intro W g hH | intro W hH))
        go_ret
        exact ⟨rfl, hH.below⟩
      cases b
      · have e := HN.out rfl
        subst e
        clear HS HN
        go_wp2_with (first | ((refine gL rfl ?_; refine hLo tab_ok rfl ?_ rfl hH rfl rfl ?_; (focus first|exact wN rfl|exact rfl); refine ⟨_, fC, ?_⟩; (clear hH; (first | intro W g hH | intro W hH); (try simp only [Act.put, pA, pB, pC])))) | ((refine gL rfl ?_; refine hLoR tab_ok rfl ?_ rfl hH rfl rfl ?_; (focus first|exact wN rfl|exact rfl); refine ⟨_, fA, ⟨oA, trivial⟩, rfl, ?_⟩; (clear hH; (first | intro W g hH | intro W hH); (try simp only [Act.put, pA, pB, pC])))) | (refine st ?_; clear hH; first | intro W g hH | intro W hH))
        go_ret
        exact ⟨rfl, hH.below⟩
      · have e := Lib.hid (HS.out rfl)
        clear HS HN
        go_wp2_with (first | ((refine gL rfl ?_; refine hLo tab_ok rfl ?_ rfl hH rfl rfl ?_; (focus first|exact wN rfl|exact rfl); refine ⟨_, fC, ?_⟩; (clear hH; (first | intro W g hH | intro W hH); (try simp only [Act.put, pA, pB, pC])))) | ((refine gL rfl ?_; refine hLoR tab_ok rfl ?_ rfl hH rfl rfl ?_; (focus first|exact wN rfl|exact rfl); refine ⟨_, fA, ⟨oA, trivial⟩, rfl, ?_⟩; (clear hH; (first | intro W g hH | intro W hH); (try simp only [Act.put, pA, pB, pC])))) | (refine st ?_; clear hH; first | intro W g hH | intro W hH))
        exact ⟨⟨j + 1, by simp, by omega, e.out, hH⟩, by simp [intOf]; omega⟩
    · have e : decide ((L.length : Int) < 65) = res := by
        rw [← HR.out]; unfold srcs4
        rw [List.take_of_length_le (by omega)] at hT
        rw [hT, Bool.true_and]
        exact decide_eq_decide.2 (by omega)
      have dj : decide ((j : Int) < (L.length : Int)) = false := decide_eq_false (by omega)
      clear hT HA HR
      go_wp2_with (refine st ?_; clear hH; first | intro W g hH | intro W hH)
      go_ret
      exact ⟨by simp [e], hH.below⟩
theorem rSrcs6_any (h : AdsAt w p L) : Gives Tryz.prog 141 #[.slice p L.length c] w (.bool (srcs6 L)) := by
  have hl := h.1
  have HA := Lib.hid h
  clear h
  obtain ⟨res, hres⟩ : ∃ r, srcs6 L = r := ⟨_, rfl⟩
  rw [hres]
  have HR := Lib.hid hres
  clear hres
  refine Gives.of ?_
  have hH := Hp.refl w
  go_enter Tryz.func141, Tryz.ntmps141
  go_wp2_with (refine st ?_; clear hH; first | intro W g hH | intro W hH)
  go_loopw [3] (fun i wr => ∃ j : Nat, i = .int .i64 (j : Int) ∧ j ≤ L.length ∧ (L.take j).all (·.v) = true ∧ Hp w.heap.size w wr []) (fun i _ => L.length - (intOf i).toNat)
  case atStart => exact ⟨0, rfl, by omega, rfl, hH⟩
  case round =>
    clear hH
    obtain ⟨j, rfl, hj, hT, hH⟩ := hrel
    by_cases hjl : j < L.length
    · obtain ⟨q, hq, fA, fC⟩ := HA.out.get hjl
      subst hq
      have dj : decide ((j : Int) < (L.length : Int)) = true := decide_eq_true (by omega)
      have HS := Lib.hid (fun e => all_snoc hT hjl e)
      have HN := Lib.hid (show L[j].v = false → res = false from fun e => by rw [← HR.out]; unfold srcs6; rw [all_no hjl e]; rfl)
      clear hT HA fA
      generalize L[j].v = v at *
      cases v
      · have e := HN.out rfl
        subst e
        clear HS HN
        go_wp2_with (first | ((refine gL rfl ?_; refine hLo tab_ok rfl ?_ rfl hH rfl rfl ?_; (focus first|exact wN rfl|exact rfl); refine ⟨_, fC, ?_⟩; (clear hH; (first | intro W g hH | intro W hH); (try simp only [Act.put, pA, pB, pC])))) | (refine st ?_; clear hH; first | intro W g hH | intro W hH))
        go_ret
        exact ⟨rfl, hH.below⟩
      · have e := Lib.hid (HS.out rfl)
        clear HS HN
        go_wp2_with (first | ((refine gL rfl ?_; refine hLo tab_ok rfl ?_ rfl hH rfl rfl ?_; (focus first|exact wN rfl|exact rfl); refine ⟨_, fC, ?_⟩; (clear hH; (first | intro W g hH | intro W hH); (try simp only [Act.put, pA, pB, pC])))) | (refine st ?_; clear hH; first | intro W g hH | intro W hH))
        exact ⟨⟨j + 1, by simp, by omega, e.out, hH⟩, by simp [intOf]; omega⟩
    · have e : decide ((L.length : Int) < 65) = res := by
        rw [← HR.out]; unfold srcs6
        rw [List.take_of_length_le (by omega)] at hT
        rw [hT, Bool.true_and]
        exact decide_eq_decide.2 (by omega)
      have dj : decide ((j : Int) < (L.length : Int)) = false := decide_eq_false (by omega)
      clear hT HA HR
      go_wp2_with (refine st ?_; clear hH; first | intro W g hH | intro W hH)
      go_ret
      exact ⟨by simp [e], hH.below⟩
end
end Go.Proofs.YtdnehjhijmeihaaGreat
namespace Go.Proofs.YtdnehjhijmeihaaGreat
section
open Go.ChangeShapes Go.WideShapes Go.ChangeAt Go.RowKit
set_option linter.unusedVariables false
set_option linter.unusedSimpArgs false
set_option maxRecDepth 20000
attribute [local irreducible] wpList

def rcOk4 (r : Rc) : Bool := decide (1 ≤ r.kind) && decide (r.kind ≤ 6) && grp4 r.grp && srcs4 r.src
def rcOk6 (r : Rc) : Bool := decide (1 ≤ r.kind) && decide (r.kind ≤ 6) && grp6 r.grp && srcs6 r.src
def recN (k s : Nat) : List Rc → Nat
  | [] => 0
  | r :: R => k + s * r.src.length + recN k s R
theorem recN_app (k s : Nat) : ∀ A B : List Rc, recN k s (A ++ B) = recN k s A + recN k s B
  | [], B => by simp [recN]
  | r :: A, B => by simp [recN, recN_app k s A B]; omega
theorem recN_le {k s : Nat} {f : Rc → Bool} (hf : ∀ r, f r = true → r.src.length ≤ 64) : ∀ R : List Rc, R.all f = true → recN k s R ≤ R.length * (k + s * 64)
  | [], _ => by simp [recN]
  | r :: R, h => by
    simp only [List.all_cons, Bool.and_eq_true] at h
    have := recN_le (k := k) (s := s) hf R h.2
    have h1 := Nat.mul_le_mul_left s (hf r h.1)
    simp only [recN, List.length_cons, Nat.succ_mul]
    omega
theorem rcOk4_len (r : Rc) (h : rcOk4 r = true) : r.src.length ≤ 64 := by
  unfold rcOk4 srcs4 at h
  simp at h
  omega
theorem rcOk6_len (r : Rc) (h : rcOk6 r = true) : r.src.length ≤ 64 := by
  unfold rcOk6 srcs6 at h
  simp at h
  omega
noncomputable def good4 (T : Tk) : Bool :=
  if T.v6 || decide (T.ver < 1) || decide (3 < T.ver) || decide (T.kind < 1) || decide (3 < T.kind) then false else
  if !(T.ver == 3 && T.kind == 1) && (T.quiet || T.rob != 0 || T.every != 0 || decide (0 < T.src.length)) then false else
  if (T.kind != 1 && T.resp != 0) || (decide (0 < T.recs.length) && (decide (T.ver < 3) || T.kind != 2)) then false else
  if T.kind == 3 then T.ver == 2 && grp4 T.grp else
  if T.kind == 2 && decide (T.ver < 3) then grp4 T.grp else
  if T.kind == 2 then T.recs.all rcOk4 && (T.grp == Ad.z && decide (T.recs.length < 65) && decide (8 + recN 8 4 T.recs < 1401)) else
  if T.ver == 1 then T.resp == 0 && T.grp == Ad.z else
  if T.grp != Ad.z && !grp4 T.grp then false else
  if T.ver == 2 then decide (0 < T.resp) && decide (T.resp < 256) else
  ex8 T.resp && ex8 T.every && decide (0 ≤ T.rob) && decide (T.rob < 8) && srcs4 T.src && (T.grp != Ad.z || T.src.length == 0)
section
variable {w : World} {sp rp : Option Addr} {sc rc : Nat} {T : Tk}
theorem len_beq (n : Nat) : ((n : Int) == 0) = (n == 0) := by rw [Bool.eq_iff_iff]; simp
theorem zAd_eq : (fls [.one (.bool false), .many (zeroL Tryz.prog 23) 16]).toArray = (fls [.many (adL Ad.z) 17]).toArray := by
  have z16 : zero16.map byteV = zeroL Tryz.prog 23 := by kernel_rfl
  rw [← z16]
  rfl
set_option maxRecDepth 20000 in
set_option maxHeartbeats 4000000 in
theorem rgood4_bad {v6 quiet : Bool} {ver kind resp rob every : Int} {G : List Value} (oG : OkA G 17) {n m : Nat} (h : v6 = true ∨ ver < 1 ∨ 3 < ver ∨ kind < 1 ∨ 3 < kind) : Gives Tryz.prog 85 #[.agg (fls [.one (.bool v6), .one (.int .i64 ver), .one (.int .i64 kind), .one (.int .i64 resp), .many G 17, .one (.bool quiet), .one (.int .i64 rob), .one (.int .i64 every), .one (.slice sp n sc), .one (.slice rp m rc)]).toArray] w (.bool false) := by
  refine Gives.of ?_
  have hH := Hp.refl w
  go_enter Tryz.func85, Tryz.ntmps85
  by_cases h1 : v6 = true
  · subst h1
    go_wp2_with (refine st ?_; clear hH; first | intro W g hH | intro W hH)
    go_ret
    exact ⟨rfl, hH.below⟩
  obtain rfl : v6 = false := by simpa using h1
  by_cases h2 : ver < 1
  · go_wp2_with (refine st ?_; clear hH; first | intro W g hH | intro W hH)
    go_ret
    exact ⟨rfl, hH.below⟩
  by_cases h3 : 3 < ver
  · go_wp2_with (refine st ?_; clear hH; first | intro W g hH | intro W hH)
    go_ret
    exact ⟨rfl, hH.below⟩
  by_cases h4 : kind < 1
  · go_wp2_with (refine st ?_; clear hH; first | intro W g hH | intro W hH)
    go_ret
    exact ⟨rfl, hH.below⟩
  have h5 : 3 < kind := by simp at h; omega
  go_wp2_with (refine st ?_; clear hH; first | intro W g hH | intro W hH)
  go_ret
  exact ⟨rfl, hH.below⟩
end
end
section
open Go.ChangeShapes Go.WideShapes Go.ChangeAt Go.RowKit
set_option linter.unusedVariables false
set_option linter.unusedSimpArgs false
set_option maxRecDepth 20000
attribute [local irreducible] wpList

noncomputable def good6 (T : Tk) : Bool :=
  if !T.v6 || decide (T.ver < 1) || decide (2 < T.ver) || decide (T.kind < 1) || decide (3 < T.kind) || (T.ver == 2 && T.kind == 3) then false else
  if (!(T.ver == 2 && T.kind == 1) && (T.quiet || T.rob != 0 || T.every != 0 || decide (0 < T.src.length))) || (T.kind != 1 && T.resp != 0) then false else
  if T.ver == 2 && T.kind == 2 then T.recs.all rcOk6 && ((!T.grp.v && zeroA T.grp.b) && decide (T.recs.length < 65) && decide (8 + recN 20 16 T.recs < 1401)) else
  if decide (0 < T.recs.length) then false else
  if decide (1 < T.kind) then grp6 T.grp else
  if (!zero6 T.grp && !grp6 T.grp) || decide (T.resp < 0) then false else
  if T.ver == 1 then decide (T.resp < 65536) else
  (((valN 4096 (cod16 T.resp) : Int) == T.resp) && decide (0 ≤ T.every) && ((valN 16 (cod8 T.every) : Int) == T.every)) && decide (0 ≤ T.rob) && decide (T.rob < 8) && srcs6 T.src && (!zero6 T.grp || T.src.length == 0)
section
variable {w : World} {sp rp : Option Addr} {sc rc : Nat} {T : Tk}
set_option maxRecDepth 20000 in
set_option maxHeartbeats 4000000 in
theorem rgood6_bad {v6 quiet : Bool} {ver kind resp rob every : Int} {G : List Value} (oG : OkA G 17) {n m : Nat} (h : v6 = false ∨ ver < 1 ∨ 2 < ver ∨ kind < 1 ∨ 3 < kind ∨ (ver = 2 ∧ kind = 3)) : Gives Tryz.prog 84 #[.agg (fls [.one (.bool v6), .one (.int .i64 ver), .one (.int .i64 kind), .one (.int .i64 resp), .many G 17, .one (.bool quiet), .one (.int .i64 rob), .one (.int .i64 every), .one (.slice sp n sc), .one (.slice rp m rc)]).toArray] w (.bool false) := by
  refine Gives.of ?_
  have hH := Hp.refl w
  go_enter Tryz.func84, Tryz.ntmps84
  by_cases h1 : v6 = false
  · subst h1
    go_wp2_with (refine st ?_; clear hH; first | intro W g hH | intro W hH)
    go_ret
    exact ⟨rfl, hH.below⟩
  obtain rfl : v6 = true := by simpa using h1
  by_cases h2 : ver < 1
  · go_wp2_with (refine st ?_; clear hH; first | intro W g hH | intro W hH)
    go_ret
    exact ⟨rfl, hH.below⟩
  by_cases h3 : 2 < ver
  · go_wp2_with (refine st ?_; clear hH; first | intro W g hH | intro W hH)
    go_ret
    exact ⟨rfl, hH.below⟩
  by_cases h4 : kind < 1
  · go_wp2_with (refine st ?_; clear hH; first | intro W g hH | intro W hH)
    go_ret
    exact ⟨rfl, hH.below⟩
  by_cases h5 : 3 < kind
  · go_wp2_with (refine st ?_; clear hH; first | intro W g hH | intro W hH)
    go_ret
    exact ⟨rfl, hH.below⟩
  obtain ⟨rfl, rfl⟩ : ver = 2 ∧ kind = 3 := by simp at h; omega
  go_wp2_with (refine st ?_; clear hH; first | intro W g hH | intro W hH)
  go_ret
  exact ⟨rfl, hH.below⟩
end
end
end Go.Proofs.YtdnehjhijmeihaaGreat
