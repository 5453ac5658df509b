/-
  Joined texts: Vef.
-/
import Derived.Test.YtdnehjhijmeihaaGreatQVp
import Derived.Test.YtdnehjhijmeihaaGreatQSl
namespace Go.Proofs.YtdnehjhijmeihaaGreat.V
-- %in
section
open Go.ChangeShapes Go.WideShapes Go.ChangeAt Go.RowKit
set_option linter.unusedVariables false
set_option linter.unusedSimpArgs false
set_option maxRecDepth 20000
attribute [local irreducible] wpList

def srcL (s : ByteArray) (n : Nat) : Nat → List Ad → St → List Ad × St
  | 0, X, t => (X, t)
  | f + 1, X, t => if X.length < n ∧ t.e = 0 then srcL s n f (X ++ [addrS s 16 t]) (stepS s 16 t) else (X, t)
def srcF (s : ByteArray) (n : Nat) (t : St) : List Ad × St := srcL s n 65 [] (failS (decide (64 < n)) 6 t)
theorem srcL_more {s : ByteArray} {n f : Nat} {X : List Ad} {t : St} (h : X.length < n ∧ t.e = 0) : srcL s n (f + 1) X t = srcL s n f (X ++ [addrS s 16 t]) (stepS s 16 t) := by rw [srcL, if_pos h]
theorem srcL_end {s : ByteArray} {n f : Nat} {X : List Ad} {t : St} (h : ¬(X.length < n ∧ t.e = 0)) : srcL s n f X t = (X, t) := by
  cases f with
  | zero => rfl
  | succ f => rw [srcL, if_neg h]
theorem srcL_k {s : ByteArray} {n : Nat} : ∀ {f : Nat} {X : List Ad} {t : St}, t.k ≤ s.size → (srcL s n f X t).2.k ≤ s.size
  | 0, X, t, h => h
  | f + 1, X, t, h => by
    rw [srcL]
    split
    · exact srcL_k (stepS_k h)
    · exact h
theorem srcF_k {s : ByteArray} {n : Nat} {t : St} (h : t.k ≤ s.size) : (srcF s n t).2.k ≤ s.size := by
  unfold srcF
  exact srcL_k (by rw [failS_k]; exact h)
section
variable {v6 qt : Bool} {ver kd rs rob ev : Int} {GA : List Value} {xp yp : Option Addr} {xn xc yn yc : Nat}
variable {B : Nat} {w0 W w : World} {H : HB} {g gr : Nat} {s : ByteArray} {t : St} {Q : Ending → World → Prop}
set_option maxHeartbeats 2000000 in
theorem isources_any (oA : OkA GA 17) {n : Nat} (hn : n < 65536) (hs : s.size ≤ 100000) (hk : t.k ≤ s.size) (hH : Hp B w0 W (rdH g gr s t v6 ver kd rs GA qt rob ev xp xn xc yp yn yc H)) (hQ : ∀ W' p c D L t', Hid (srcF s n t = (L, t')) → Hid (∀ B w0 W, Hp B w0 W D → AdsAt W p L) → Hid (∀ r ∈ D, r.2.2.1 = true) → Hp B w0 W' (rdH g gr s t' v6 ver kd rs GA qt rob ev xp xn xc yp yn yc (D ++ H)) → Q (.returned (.slice p L.length c)) W') : Calls Tryz.prog 193 #[.pointer (some ⟨g, 0, none⟩), .int .i64 (n : Int)] W Q := by
  have HQ := Lib.hid hQ
  clear hQ
  obtain ⟨res, hres⟩ : ∃ r, srcF s n t = r := ⟨_, rfl⟩
  have HR := Lib.hid hres
  have hk0 : (failS (decide (64 < n)) 6 t).k ≤ s.size := by rw [failS_k]; exact hk
  have h64 : n ≤ 64 ∨ (failS (decide (64 < n)) 6 t).e ≠ 0 := by
    by_cases h : n ≤ 64
    · exact .inl h
    · right
      rw [failS_e, decide_eq_true (show 64 < n by omega), Bool.true_and]
      by_cases he : t.e = 0
      · rw [he]; simp
      · rw [if_neg (by simpa using he)]; exact he
  have hF : ∀ {W : World} {Q : Ending → World → Prop}, Hp B w0 W (rdH g gr s t v6 ver kd rs GA qt rob ev xp xn xc yp yn yc H) → (∀ W', Hp B w0 W' (rdH g gr s (failS (decide (64 < n)) 6 t) v6 ver kd rs GA qt rob ev xp xn xc yp yn yc H) → Q (.returned (.tuple #[])) W') → Calls Tryz.prog 189 #[.pointer (some ⟨g, 0, none⟩), .bool (decide (64 < (n : Int))), .int .i64 6] W Q := fun h k' => by
    rw [show decide (64 < (n : Int)) = decide (64 < n) from decide_eq_decide.2 (by omega)]
    exact ifail_any oA h k'
  have HF := @hF
  clear hF
  have HL := Lib.hid (show srcL s n 65 [] (failS (decide (64 < n)) 6 t) = res from hres)
  clear hres hk
  generalize failS (decide (64 < n)) 6 t = t1 at *
  unfold rdH rgS at *
  go_enter Tryz.func193, Tryz.ntmps193
  go_wp2_with (first | ((go_at_call 189; refine HF hH ?_; (clear hH; (first | intro W g hH | intro W hH); (try simp only [Act.put, pA, pB, pC])))) | (refine st ?_; clear hH; (first | intro W g hH | intro W hH)))
  go_loopw [5] (fun sl wr => ∃ (X : List Ad) (t' : St) (f : Nat), Hid (srcL s n f X t' = res) ∧ f + X.length = 65 ∧ t'.k ≤ s.size ∧ (n ≤ 64 ∨ t'.e ≠ 0) ∧ X.length ≤ 64 ∧ ((Hid (X = []) ∧ sl = .slice none 0 0 ∧ Hp B w0 wr ((g, 159, true, (rgS gr v6 ver kd rs GA qt rob ev xp xn xc yp yn yc t'.e)) :: (gr, 129, true, rdSegs s t') :: H)) ∨ (∃ (go cc q : Nat) (J : List Value), sl = .slice (some ⟨go, 0, none⟩) X.length cc ∧ Grow 17 X.length cc (X.length * 17) q ∧ OkA J q ∧ Hp B w0 wr ((go, 25, true, [.many (adsL X) (X.length * 17), .many J q]) :: (g, 159, true, (rgS gr v6 ver kd rs GA qt rob ev xp xn xc yp yn yc t'.e)) :: (gr, 129, true, rdSegs s t') :: H)))) (fun sl _ => match sl with | .slice _ m _ => 64 - m | _ => 0)
  case atStart => exact ⟨[], t1, 65, HL, rfl, hk0, h64, by simp, .inl ⟨Lib.hid rfl, rfl, hH⟩⟩
  case round =>
    clear hH HL HF
    obtain ⟨X, t', f, HL, hf, hk', h64', hX64, hor⟩ := hrel
    by_cases hc : X.length < n ∧ t'.e = 0
    · obtain ⟨hXn, he⟩ := hc
      have hn64 : n ≤ 64 := by rcases h64' with h | h; exact h; exact absurd he h
      obtain ⟨f', rfl⟩ : ∃ f', f = f' + 1 := ⟨f - 1, by omega⟩
      have HL2 := Lib.hid ((srcL_more ⟨hXn, he⟩).symm.trans HL.out)
      have hk2 := stepS_k (n := 16) hk'
      have dj : decide ((X.length : Int) < (n : Int)) = true := decide_eq_true (by omega)
      have hSnoc := Lib.hid (adsL_snoc X (addrS s 16 t'))
      have oY := adL_ok (addrS s 16 t')
      obtain ⟨k', b', e'⟩ := t'
      simp only at he
      subst he
      have HA := Lib.hid (show ∀ (W : World) (H H1 H2 : HB) (Q : Ending → World → Prop) (i j : Nat), Hp B w0 W H → nthH H i = some (g, 159, true, (rgS gr v6 ver kd rs GA qt rob ev xp xn xc yp yn yc 0)) → updH H i (rgS gr v6 ver kd rs GA qt rob ev xp xn xc yp yn yc (stepS s 16 ⟨k', b', 0⟩).e) = some H1 → nthH H1 j = some (gr, 129, true, rdSegs s ⟨k', b', 0⟩) → updH H1 j (rdSegs s (stepS s 16 ⟨k', b', 0⟩)) = some H2 → (∀ W', Hp B w0 W' H2 → Q (.returned (.agg (fls [.many (adL (addrS s 16 ⟨k', b', 0⟩)) 17]).toArray)) W') → Calls Tryz.prog 190 #[.pointer (some ⟨g, 0, none⟩)] W Q from fun W H H1 H2 Q i j h h1 h2 h3 h4 hQ => hIAddr (t := ⟨k', b', 0⟩) i j oA hs hk' h h1 h2 h3 h4 hQ)
      generalize addrS s 16 ⟨k', b', 0⟩ = y at *
      generalize stepS s 16 ⟨k', b', 0⟩ = t2 at *
      obtain ⟨Y, hY⟩ : ∃ Y, Y = adL y := ⟨_, rfl⟩
      rw [← hY] at oY HA hSnoc
      have HY := Lib.hid hY
      clear hY
      rcases hor with ⟨hX, rfl, hH⟩ | ⟨go, cc, q, J, rfl, hG, oJ, hH⟩
      · have hX := hX.out
        subst hX
        have d0 : decide ((0 : Int) < (n : Int)) = true := decide_eq_true (by simp at hXn; omega)
        go_wp2_with (first | ((go_at_call 190; refine HA.out _ _ _ _ _ 0 1 hH rfl rfl rfl rfl ?_; (clear hH; (first | intro W g hH | intro W hH); (try simp only [Act.put, pA, pB, pC])))) | (((first | (refine hApp0 0 tab_ok tabs_ok rfl rfl rfl rfl rfl rfl rfl hH rfl rfl rfl ?_; refine ⟨?_, ?_, ?_⟩; (focus (first | omega | (simp; omega))); (focus (first | omega | (simp; omega))))); clear hH; intro W g c p q J hG hL hJ hH; (try simp only [putH, fls, List.append_nil] at hH hL); (try simp only [Act.put, pA, pB, pC]))) | (refine st ?_; clear hH; (first | intro W g hH | intro W hH)))
        have hp := hG.hp
        have hq := hG.hq
        have hle := hG.le
        have hmo := hG.most
        refine ⟨⟨[y], t2, f', HL2, by simp at *; omega, hk2, by omega, by simp, .inr ⟨_, c, q, J, rfl, ⟨rfl, by rw [← hq, hp]; rfl, hle, hmo⟩, hJ, ?_⟩⟩, by simp⟩
        have e2 : adsL [y] = Y := by rw [HY.out]; simp [adsL]
        have e1 : [y].length * 17 = p := by rw [hp]; simp
        rw [e2, e1]
        exact hH.sub (SubH.keep (SubH.drop SubH.refl))
      · go_wp2_with (first | ((go_at_call 190; refine HA.out _ _ _ _ _ 1 2 hH rfl rfl rfl rfl ?_; (clear hH; (first | intro W g hH | intro W hH); (try simp only [Act.put, pA, pB, pC])))) | (((first | (refine hApp 1 0 tab_ok tabs_ok rfl rfl rfl rfl rfl rfl rfl hH rfl rfl rfl rfl ?_; refine ⟨?_, ?_, ?_⟩; (focus assumption); (focus (first | omega | (simp; omega))))); clear hH; intro W g c p q J hG hL hJ hH; (try simp only [putH, fls, List.append_nil] at hH hL); (try simp only [Act.put, pA, pB, pC]))) | (refine st ?_; clear hH; (first | intro W g hH | intro W hH)))
        have hp := hG.hp
        have hq := hG.hq
        have hle := hG.le
        have hmo := hG.most
        have e1 : (X ++ [y]).length = X.length + 1 := by simp
        refine ⟨⟨X ++ [y], t2, f', HL2, by simp; omega, hk2, by omega, by simp; omega, .inr ⟨g, c, q, J, by simp, by rw [e1]; exact ⟨rfl, by rw [← hq, hp], hle, hmo⟩, hJ, ?_⟩⟩, by simp; omega⟩
        have e2 : (X ++ [y]).length * 17 = p := by rw [hp]; simp
        rw [e2, hSnoc.out]
        exact hH.sub (SubH.drop SubH.refl)
    · obtain ⟨k', b', e'⟩ := t'
      simp only at hc hor
      have hcase : (n ≤ X.length ∧ decide ((X.length : Int) < (n : Int)) = false) ∨ (X.length < n ∧ e' ≠ 0 ∧ decide ((X.length : Int) < (n : Int)) = true ∧ (e' == 0) = false) := by
        by_cases h1 : X.length < n
        · have h2 : e' ≠ 0 := fun h => hc ⟨h1, h⟩
          exact .inr ⟨h1, h2, decide_eq_true (by omega), by simpa using h2⟩
        · exact .inl ⟨by omega, decide_eq_false (by omega)⟩
      have HL2 := Lib.hid ((srcL_end hc).symm.trans HL.out)
      have HE := Lib.hid (show srcF s n t = (X, ⟨k', b', e'⟩) from HR.out.trans HL2.out.symm)
      clear hc HL HL2 HR
      rcases hor with ⟨hX, rfl, hH⟩ | ⟨go, cc, q, J, rfl, hG, oJ, hH⟩
      · have hX := hX.out
        subst hX
        rcases hcase with ⟨h1, dj⟩ | ⟨h1, h2, dj, de⟩
        all_goals
          have d0 := show decide ((0 : Int) < (n : Int)) = _ from dj
          clear dj
          simp only [List.length_nil] at h1
          go_wp2_with (first | (refine st ?_; clear hH; (first | intro W g hH | intro W hH)))
          exact HQ.out _ none 0 [] [] ⟨k', b', e'⟩ HE (Lib.hid (fun _ _ _ _ => AdsAt.nil)) (Lib.hid (fun r hr => by simp at hr)) hH
      · have hp := hG
        clear hG
        rcases hcase with ⟨h1, dj⟩ | ⟨h1, h2, dj, de⟩
        all_goals
          go_wp2_with (first | (refine st ?_; clear hH; (first | intro W g hH | intro W hH)))
          exact HQ.out _ (some ⟨go, 0, none⟩) cc [(go, _, true, [.many (adsL X) (X.length * 17), .many J q])] X ⟨k', b', e'⟩ HE (Lib.hid (fun B w0 W h => by exact adsAt_row (J := J) (by omega) (by simpa [fls] using (h.rows.mem (i := 0) rfl).1))) (Lib.hid (fun r hr => by simp at hr; rw [hr])) (hH.perm ((List.Perm.swap _ _ _).trans ((List.Perm.swap _ _ _).cons _)))
end
end
section
open Go.ChangeShapes Go.WideShapes Go.ChangeAt Go.RowKit
set_option linter.unusedVariables false
set_option linter.unusedSimpArgs false
set_option maxRecDepth 20000
attribute [local irreducible] wpList

/-- what the reader's methods do, as facts that stay whole -/
def NumC (B : Nat) (w0 : World) (g gr : Nat) (s : ByteArray) (n : Nat) (t : St) (v : Nat) (t' : St) : Prop :=
  ∀ ⦃v6 qt : Bool⦄ ⦃ver kd rs rob ev : Int⦄ ⦃GA : List Value⦄ ⦃xp yp : Option Addr⦄ ⦃xn xc yn yc : Nat⦄ (W : World) (H H1 H2 : HB) (Q : Ending → World → Prop) (x : Int) (i j : Nat), OkA GA 17 → x = (n : Int) → Hp B w0 W H → nthH H i = some (g, 159, true, rgS gr v6 ver kd rs GA qt rob ev xp xn xc yp yn yc t.e) → updH H i (rgS gr v6 ver kd rs GA qt rob ev xp xn xc yp yn yc t'.e) = some H1 → nthH H1 j = some (gr, 129, true, rdSegs s t) → updH H1 j (rdSegs s t') = some H2 → (∀ W', Hp B w0 W' H2 → Q (.returned (.int .i64 (v : Int))) W') → Calls Tryz.prog 152 #[.pointer (some ⟨g, 0, none⟩), .int .i64 x] W Q
def AddrC (B : Nat) (w0 : World) (g gr : Nat) (s : ByteArray) (t : St) (A : List Value) (t' : St) : Prop :=
  ∀ ⦃v6 qt : Bool⦄ ⦃ver kd rs rob ev : Int⦄ ⦃GA : List Value⦄ ⦃xp yp : Option Addr⦄ ⦃xn xc yn yc : Nat⦄ (W : World) (H H1 H2 : HB) (Q : Ending → World → Prop) (i j : Nat), OkA GA 17 → Hp B w0 W H → nthH H i = some (g, 159, true, rgS gr v6 ver kd rs GA qt rob ev xp xn xc yp yn yc t.e) → updH H i (rgS gr v6 ver kd rs GA qt rob ev xp xn xc yp yn yc t'.e) = some H1 → nthH H1 j = some (gr, 129, true, rdSegs s t) → updH H1 j (rdSegs s t') = some H2 → (∀ W', Hp B w0 W' H2 → Q (.returned (.agg (fls [.many A 17]).toArray)) W') → Calls Tryz.prog 190 #[.pointer (some ⟨g, 0, none⟩)] W Q
def FailC (B : Nat) (w0 : World) (g gr : Nat) (s : ByteArray) (is : Bool) (c : Int) (t : St) (e' : Int) : Prop :=
  ∀ ⦃v6 qt : Bool⦄ ⦃ver kd rs rob ev : Int⦄ ⦃GA : List Value⦄ ⦃xp yp : Option Addr⦄ ⦃xn xc yn yc : Nat⦄ (W : World) (H H1 H2 : HB) (Q : Ending → World → Prop) (x : Bool) (y : Int) (i j : Nat), OkA GA 17 → x = is → y = c → Hp B w0 W H → nthH H i = some (g, 159, true, rgS gr v6 ver kd rs GA qt rob ev xp xn xc yp yn yc t.e) → updH H i (rgS gr v6 ver kd rs GA qt rob ev xp xn xc yp yn yc e') = some H1 → nthH H1 j = some (gr, 129, true, rdSegs s t) → updH H1 j (rdSegs s t) = some H2 → (∀ W', Hp B w0 W' H2 → Q (.returned (.tuple #[])) W') → Calls Tryz.prog 189 #[.pointer (some ⟨g, 0, none⟩), .bool x, .int .i64 y] W Q
def SrcC (B : Nat) (w0 : World) (g gr : Nat) (s : ByteArray) (n : Nat) (t : St) (L : List Ad) (t' : St) : Prop :=
  ∀ ⦃v6 qt : Bool⦄ ⦃ver kd rs rob ev : Int⦄ ⦃GA : List Value⦄ ⦃xp yp : Option Addr⦄ ⦃xn xc yn yc : Nat⦄ (W : World) (H H1 H2 : HB) (Q : Ending → World → Prop) (i j : Nat), OkA GA 17 → Hp B w0 W H → nthH H i = some (g, 159, true, rgS gr v6 ver kd rs GA qt rob ev xp xn xc yp yn yc t.e) → updH H i (rgS gr v6 ver kd rs GA qt rob ev xp xn xc yp yn yc t'.e) = some H1 → nthH H1 j = some (gr, 129, true, rdSegs s t) → updH H1 j (rdSegs s t') = some H2 → (∀ W' p c D, Hid (∀ B w0 W, Hp B w0 W D → AdsAt W p L) → Hid (∀ r ∈ D, r.2.2.1 = true) → Hp B w0 W' (H2 ++ D) → Q (.returned (.slice p L.length c)) W') → Calls Tryz.prog 193 #[.pointer (some ⟨g, 0, none⟩), .int .i64 (n : Int)] W Q
def TakeC (B : Nat) (w0 : World) (gr : Nat) (s : ByteArray) (n : Nat) (t t' : St) : Prop :=
  ∀ (W : World) (H H2 : HB) (Q : Ending → World → Prop) (x : Int) (j : Nat), x = (n : Int) → Hp B w0 W H → nthH H j = some (gr, 129, true, rdSegs s t) → updH H j (rdSegs s t') = some H2 → (∀ W', Hp B w0 W' H2 → Q (.returned (.string (rdS s t.k t.b n))) W') → Calls Tryz.prog 101 #[.pointer (some ⟨gr, 0, none⟩), .int .i64 x] W Q
section
variable {B : Nat} {w0 W w : World} {H : HB} {g gr : Nat} {s : ByteArray} {t : St} {Q : Ending → World → Prop}
theorem wrap_small {v : Nat} (h : v < 2 ^ 63) : wrap64 (v : Int) = (v : Int) := by
  unfold wrap64
  omega
theorem numC {n : Nat} (hn : n ≤ 4) (hs : s.size ≤ 100000) (hk : t.k ≤ s.size) : NumC B w0 g gr s n t (numV s n t) (stepS s n t) := by
  intro v6 qt ver kd rs rob ev GA xp yp xn xc yn yc W H H1 H2 Q x i j oA hx hH h1 h2 h3 h4 hQ
  subst hx
  have hv := numV_lt s n t
  have : 256 ^ n ≤ 256 ^ 4 := Nat.pow_le_pow_right (by omega) hn
  have := wrap_small (v := numV s n t) (by omega)
  rw [← this] at hQ
  exact hINum i j oA (by omega) hs hk hH h1 h2 h3 h4 hQ
theorem addrC (hs : s.size ≤ 100000) (hk : t.k ≤ s.size) : AddrC B w0 g gr s t (adL (addrS s 16 t)) (stepS s 16 t) := fun _ _ _ _ _ _ _ _ _ _ _ _ _ _ W H H1 H2 Q i j oA hH h1 h2 h3 h4 hQ => hIAddr i j oA hs hk hH h1 h2 h3 h4 hQ
theorem failC {is : Bool} {c : Int} : FailC B w0 g gr s is c t (failS is c t).e := fun _ _ _ _ _ _ _ _ _ _ _ _ _ _ W H H1 H2 Q x y i j oA hx hy hH h1 h2 h3 h4 hQ => by subst hx; subst hy; exact hFail (t := t) i j oA hH h1 h2 h3 h4 hQ
theorem srcC {n : Nat} {L : List Ad} {t' : St} (hn : n < 65536) (hs : s.size ≤ 100000) (hk : t.k ≤ s.size) (he : srcF s n t = (L, t')) : SrcC B w0 g gr s n t L t' := by
  intro v6 qt ver kd rs rob ev GA xp yp xn xc yn yc W H H1 H2 Q i j oA hH h1 h2 h3 h4 hQ
  obtain ⟨H0, p1, p2⟩ := perm2 h1 h2 h3 h4 (by decide)
  refine isources_any oA hn hs hk (H := H0) (hH.perm p1) ?_
  intro W' p c D L2 t2 e hA hD h
  have e2 := e.out.symm.trans he
  injection e2 with e3 e4
  subst e3
  subst e4
  refine hQ W' p c D hA hD (h.perm ?_)
  unfold rdH
  refine List.Perm.trans ?_ (p2.symm.append_right D)
  exact (List.Perm.cons _ (List.Perm.cons _ List.perm_append_comm))
theorem takeC {n : Nat} (hn : n ≤ 100000) (hs : s.size ≤ 100000) (hk : t.k ≤ s.size) : TakeC B w0 gr s n t ⟨rdK s t.k t.b n, rdB s t.k t.b n, t.e⟩ := fun W H H2 Q x j hx hH h3 h4 hQ => by
  subst hx
  exact hTakeA (n := (n : Int)) j hH h3 h4 (by omega) hk (by omega) hQ
end
/-- a record, whether it counts, and where the reader stands then -/
def recF (s : ByteArray) (t : St) : Rc × Bool × St :=
  let t1 := stepS s 1 t
  let t2 := stepS s 1 t1
  let t3 := stepS s 2 t2
  let t4 := stepS s 16 t3
  let L := srcF s (numV s 2 t2) t4
  (⟨numV s 1 t, addrS s 16 t3, L.1⟩, decide (1 ≤ numV s 1 t) && (decide (numV s 1 t ≤ 6) && grp6 (addrS s 16 t3)), if L.2.e = 0 then stepS s (numV s 1 t1 * 4) L.2 else L.2)
theorem recF_k {s : ByteArray} {t : St} (h : t.k ≤ s.size) : (recF s t).2.2.k ≤ s.size := by
  unfold recF
  simp only
  have := srcF_k (n := numV s 2 (stepS s 1 (stepS s 1 t))) (stepS_k (n := 16) (stepS_k (n := 2) (stepS_k (n := 1) (stepS_k (n := 1) h))))
  split
  · exact stepS_k this
  · exact this
def repL (s : ByteArray) (n : Nat) : Nat → Nat → List Rc → St → List Rc × St
  | 0, i, X, t => (X, t)
  | f + 1, i, X, t => if i < n ∧ t.e = 0 then repL s n f (i + 1) (if (recF s t).2.1 then X ++ [(recF s t).1] else X) (recF s t).2.2 else (X, t)
theorem repL_more {s : ByteArray} {n f i : Nat} {X : List Rc} {t : St} (h : i < n ∧ t.e = 0) : repL s n (f + 1) i X t = repL s n f (i + 1) (if (recF s t).2.1 then X ++ [(recF s t).1] else X) (recF s t).2.2 := by rw [repL, if_pos h]
theorem repL_end {s : ByteArray} {n f i : Nat} {X : List Rc} {t : St} (h : ¬(i < n ∧ t.e = 0)) : repL s n f i X t = (X, t) := by
  cases f with
  | zero => rfl
  | succ f => rw [repL, if_neg h]
def repF (s : ByteArray) (t : St) : List Rc × St :=
  repL s (numV s 2 (stepS s 2 t)) 65 0 [] (failS (decide (64 < numV s 2 (stepS s 2 t))) 6 (stepS s 2 (stepS s 2 t)))
theorem own_app {D E : HB} (h : Hid (∀ r ∈ D, r.2.2.1 = true)) (h' : Hid (∀ r ∈ E, r.2.2.1 = true)) : Hid (∀ r ∈ D ++ E, r.2.2.1 = true) := Lib.hid fun r hr => (List.mem_append.1 hr).elim (h.out r) (h'.out r)
theorem in_app {X : List Rv} {D E : HB} (h : Hid (∀ x ∈ X, ∀ B w0 W, Hp B w0 W D → AdsAt W x.p x.r.src)) : Hid (∀ x ∈ X, ∀ B w0 W, Hp B w0 W (D ++ E) → AdsAt W x.p x.r.src) := Lib.hid fun x hx B w0 W hH => h.out x hx B w0 W (hH.sub SubH.appL)
theorem in_snoc {X : List Rv} {D E : HB} {y : Rv} (h : Hid (∀ x ∈ X, ∀ B w0 W, Hp B w0 W D → AdsAt W x.p x.r.src)) (h' : Hid (∀ B w0 W, Hp B w0 W E → AdsAt W y.p y.r.src)) : Hid (∀ x ∈ X ++ [y], ∀ B w0 W, Hp B w0 W (D ++ E) → AdsAt W x.p x.r.src) := Lib.hid fun x hx B w0 W hH => by
  rcases List.mem_append.1 hx with hx | hx
  · exact h.out x hx B w0 W (hH.sub SubH.appL)
  · obtain rfl := List.mem_singleton.1 hx
    exact h'.out B w0 W (hH.sub SubH.appR)
theorem in_one {D E : HB} {y : Rv} (h' : Hid (∀ B w0 W, Hp B w0 W E → AdsAt W y.p y.r.src)) : Hid (∀ x ∈ [y], ∀ B w0 W, Hp B w0 W (D ++ E) → AdsAt W x.p x.r.src) := Lib.hid fun x hx B w0 W hH => by
  obtain rfl := List.mem_singleton.1 hx
  exact h'.out B w0 W (hH.sub SubH.appR)
/-- a reader's first three calls in a record, its address and sources -/
def RecPre (B : Nat) (w0 : World) (g gr : Nat) (s : ByteArray) (t : St) (v1 v2 v3 : Nat) (a : Ad) (L : List Ad) (t5 : St) : Prop :=
  ∃ t1 t2 t3 t4 : St, NumC B w0 g gr s 1 t v1 t1 ∧ NumC B w0 g gr s 1 t1 v2 t2 ∧ NumC B w0 g gr s 2 t2 v3 t3 ∧ AddrC B w0 g gr s t3 (adL a) t4 ∧ SrcC B w0 g gr s v3 t4 L t5
section
variable {B : Nat} {w0 W w : World} {H : HB} {g gr : Nat} {s : ByteArray} {t : St} {Q : Ending → World → Prop}
theorem recPre (hs : s.size ≤ 100000) (hk : t.k ≤ s.size) : ∃ (v1 v2 v3 : Nat) (a : Ad) (L : List Ad) (t5 : St), RecPre B w0 g gr s t v1 v2 v3 a L t5 ∧ v1 < 256 ∧ v2 < 256 ∧ t5.k ≤ s.size ∧ recF s t = (⟨v1, a, L⟩, decide (1 ≤ v1) && (decide (v1 ≤ 6) && grp6 a), if t5.e = 0 then stepS s (v2 * 4) t5 else t5) :=
  ⟨numV s 1 t, numV s 1 (stepS s 1 t), numV s 2 (stepS s 1 (stepS s 1 t)), addrS s 16 (stepS s 2 (stepS s 1 (stepS s 1 t))), (srcF s (numV s 2 (stepS s 1 (stepS s 1 t))) (stepS s 16 (stepS s 2 (stepS s 1 (stepS s 1 t))))).1, (srcF s (numV s 2 (stepS s 1 (stepS s 1 t))) (stepS s 16 (stepS s 2 (stepS s 1 (stepS s 1 t))))).2,
    ⟨_, _, _, _, numC (by omega) hs hk, numC (by omega) hs (stepS_k hk), numC (by omega) hs (stepS_k (stepS_k hk)), addrC hs (stepS_k (stepS_k (stepS_k hk))), srcC (numV_lt s 2 _) hs (stepS_k (stepS_k (stepS_k (stepS_k hk)))) rfl⟩, numV_lt s 1 _, numV_lt s 1 _, srcF_k (stepS_k (stepS_k (stepS_k (stepS_k hk)))), rfl⟩
theorem stepS_eq (n : Nat) (t : St) : stepS s n t = ⟨rdK s t.k t.b n, rdB s t.k t.b n, (failS (rdB s t.k t.b n) 3 ⟨rdK s t.k t.b n, rdB s t.k t.b n, t.e⟩).e⟩ := by
  unfold stepS
  generalize rdK s t.k t.b n = x
  generalize rdB s t.k t.b n = y
  unfold failS
  split <;> rfl
end
end
end Go.Proofs.YtdnehjhijmeihaaGreat.V
