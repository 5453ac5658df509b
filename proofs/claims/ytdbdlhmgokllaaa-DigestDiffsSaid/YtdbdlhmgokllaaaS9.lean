/-
  The reference of digests: Apply (printed by tools/gen-s9.py).
-/
import Derived.Test.YtdbdlhmgokllaaaS8
namespace Go.Proofs.Ytdbdlhmgokllaaa
-- %in
open Go.ChangeShapes Go.WideShapes Go.ChangeAt Go.RowKit
set_option linter.unusedVariables false
set_option linter.unusedSimpArgs false
set_option maxRecDepth 20000
attribute [local irreducible] wpList

def goR {α : Type} (ins : α → Bool) (y : α) (i : Int) : Nat → Bool → List α → List α → List α × Bool
  | _, d, [], acc => (acc, d)
  | k, d, a :: L, acc => goR ins y i (k + 1) (d || ins a) L (acc ++ (if !d && ins a then [y] else []) ++ (if (k : Int) = i then [] else [a]))
def endR {α : Type} (y : α) (r : List α × Bool) : List α := if r.2 then r.1 else r.1 ++ [y]
def insR (x a : En) : Bool := decide (cmpE x a ≠ 1)
noncomputable def refStep (R : List En) (x : Ch) : List En :=
  if (!placedE x.e || (!x.gone && !oneE x.e)) = true then R
  else if findR R x.e 0 < 0 ∧ (x.gone = true ∨ 512 ≤ R.length) then R
  else endR x.e (goR (insR x.e) x.e (findR R x.e 0) 0 x.gone R [])
theorem goR_map {y : Ev} {i : Int} {x : En} (hy : y.e = x) : ∀ (L acc : List Ev) (k : Nat) (d : Bool), (goR (fun a : Ev => insR x a.e) y i k d L acc).1.map Ev.e = (goR (insR x) x i k d (L.map Ev.e) (acc.map Ev.e)).1 ∧ (goR (fun a : Ev => insR x a.e) y i k d L acc).2 = (goR (insR x) x i k d (L.map Ev.e) (acc.map Ev.e)).2
  | [], acc, k, d => ⟨rfl, rfl⟩
  | a :: L, acc, k, d => by
    unfold goR
    have h := goR_map (i := i) hy L (acc ++ (if !d && insR x a.e then [y] else []) ++ (if (k : Int) = i then [] else [a])) (k + 1) (d || insR x a.e)
    have e : (acc ++ (if !d && insR x a.e then [y] else []) ++ (if (k : Int) = i then [] else [a])).map Ev.e = acc.map Ev.e ++ (if !d && insR x a.e then [x] else []) ++ (if (k : Int) = i then [] else [a.e]) := by
      rw [List.map_append, List.map_append]
      congr 1
      · congr 1
        split
        · simp [hy]
        · rfl
      · split <;> rfl
    rw [e] at h
    exact h
theorem goR_mem {y : Ev} {i : Int} {ins : Ev → Bool} {z : Ev} : ∀ (L acc : List Ev) (k : Nat) (d : Bool), z ∈ (goR ins y i k d L acc).1 → z ∈ acc ∨ z ∈ L ∨ z = y
  | [], acc, k, d, h => .inl h
  | a :: L, acc, k, d, h => by
    unfold goR at h
    rcases goR_mem L _ _ _ h with h | h | h
    · rcases List.mem_append.1 h with h | h
      · rcases List.mem_append.1 h with h | h
        · exact .inl h
        · split at h
          · exact .inr (.inr (by simpa using h))
          · cases h
      · split at h
        · cases h
        · exact .inr (.inl (by simp at h; simp [h]))
    · exact .inr (.inl (List.mem_cons_of_mem _ h))
    · exact .inr (.inr h)
theorem endR_map {y : Ev} {x : En} (hy : y.e = x) {r : List Ev × Bool} {r' : List En × Bool} (h1 : r.1.map Ev.e = r'.1) (h2 : r.2 = r'.2) : (endR y r).map Ev.e = endR x r' := by
  unfold endR
  rw [← h2]
  split
  · exact h1
  · rw [List.map_append, h1, List.map_cons, hy]; rfl
def RApP (w : World) (X : List Ev) (p : Option Addr) (x : Ch) (sy : Option Addr) (cy : Nat) (e : Ending) (w' : World) : Prop :=
  ∃ p' c' X' D, e = .returned (.slice p' X'.length c') ∧ Made w w' D ∧ X'.map Ev.e = refStep (X.map Ev.e) x ∧ (∀ z ∈ X', z ∈ X ∨ z = ⟨x.e, sy, cy⟩) ∧ ∀ Dx, (∀ B w0 W, Hp B w0 W Dx → CellsAt W p X) → ∀ B w0 W, Hp B w0 W (Dx ++ D) → CellsAt W p' X'
theorem RApP.same {w w' : World} {X : List Ev} {p : Option Addr} {x : Ch} {sy : Option Addr} {cy c : Nat} {H : HB} (h : refStep (X.map Ev.e) x = X.map Ev.e) (hH : Hp w.heap.size w w' H) : RApP w X p x sy cy (.returned (.slice p X.length c)) w' :=
  ⟨p, c, X, [], rfl, ⟨hH.nil, by simp⟩, h.symm, fun z hz => .inl hz, fun Dx h B w0 W hH => h _ _ _ (by rwa [List.append_nil] at hH)⟩
theorem RApP.new {w w' : World} {X Xo : List Ev} {p : Option Addr} {x : Ch} {sy : Option Addr} {cy c g q : Nat} {J : List Value} (h : Xo.map Ev.e = refStep (X.map Ev.e) x) (hm : ∀ z ∈ Xo, z ∈ X ∨ z = ⟨x.e, sy, cy⟩) (hH : Hp w.heap.size w w' [(g, 30, true, [.many (evsL Xo) (Xo.length * 20), .many J q])]) : RApP w X p x sy cy (.returned (.slice (some ⟨g, 0, none⟩) Xo.length c)) w' :=
  ⟨some ⟨g, 0, none⟩, c, Xo, _, rfl, ⟨hH, by simp⟩, h, hm, fun Dx _ B w0 W hH => CellsAt.row (by have := (hH.sub (SubH.appR)).rows.1.1; rwa [fls_two] at this)⟩
section
variable {w : World} {p sy : Option Addr} {c cy : Nat} {X : List Ev} {x : Ch}
set_option maxHeartbeats 16000000 in
theorem rApply_any (h : CellsAt w p X) (hl : X.length ≤ 900) (hy : AdsAt w sy x.e.src) (hly : x.e.src.length ≤ 1000) : Calls Try.prog 22 #[.slice p X.length c, .agg (fls (chS x sy cy)).toArray] w fun e w' => RApP w X p x sy cy e w' := by
  have f1 : ∀ w p c, Gives Try.prog 46 #[.agg (fls (enS x.e p c)).toArray] w (.bool (placedE x.e)) := fun w p c => rplaced_any
  have f2 := Lib.hid (fun W (hb : Below w.heap.size w W) => rOne_any (c := cy) hly (hy.below hb))
  have f3 := Lib.hid (fun W (hb : Below w.heap.size w W) => rFind_any (x := x.e) (s := sy) (cs := cy) (c := c) (h.below hb) (by omega))
  have HST := Lib.hid (show refStep (X.map Ev.e) x = _ from rfl)
  have HSAME := Lib.hid (fun (hs : refStep (X.map Ev.e) x = X.map Ev.e) (c : Nat) (w' : World) (H : HB) (hH : Hp w.heap.size w w' H) => RApP.same (p := p) (sy := sy) (cy := cy) (c := c) hs hH)
  have HC := Lib.hid h
  have FC := Lib.hid (fun (a : Ev) (w : World) => rCompare_any (w := w) (b := a.e) (q := a.p) (d := a.c) (a := x.e) (p := sy) (c := cy))
  clear h hy hly
  obtain ⟨⟨ky, Gy, exy, ly⟩, gn⟩ := x
  unfold chS
  unfold enS at f1 f2 f3 FC
  simp only at f1 f2 f3 FC ⊢
  have oY := adL_ok Gy
  obtain ⟨Y, hY⟩ : ∃ Y, Y = adL Gy := ⟨_, rfl⟩
  rw [← hY] at oY f1 f2 f3 FC ⊢
  have HY := Lib.hid hY
  clear hY
  have hH := Hp.refl w
  cases hpl : placedE ⟨ky, Gy, exy, ly⟩ with
  | false =>
    rw [hpl] at f1
    have HS2 := Lib.hid (show refStep (X.map Ev.e) ⟨⟨ky, Gy, exy, ly⟩, gn⟩ = X.map Ev.e by unfold refStep; rw [if_pos (by simp [hpl])])
    clear f3 HST HC FC hpl
    go_enter Try.func22, Try.ntmps22
    go_wp2_with (first | ((first | (refine iL tab_ok rfl ?_ rfl hH ?_; (focus first|exact wN rfl|exact rfl); refine ⟨_, _, rfl, rfl, ?_⟩) | (refine hBx rfl ?_ rfl hH ?_ ?_; (focus first|exact wN rfl|exact rfl); (focus (repeat (first | exact trivial | assumption | exact OkA.z (by kernel_rfl) (by kernel_rfl) | refine ⟨rfl, ?_⟩ | refine ⟨?_, ?_⟩)))) | ((with_reducible refine callH hH ?_); refine ⟨?_, ?_, ?_⟩; rotate_left; (focus (first | (exact f1 _ _ _) | (exact f2.out _ hH.below))))); clear hH; (first | intro W g hH | intro W hH); ((try simp only [Act.put, pA, pB, pC]))))
    go_ret
    exact HSAME.out HS2.out _ _ _ hH
  | true =>
    rw [hpl] at f1
    have HPL := Lib.hid hpl
    clear hpl
    by_cases hon : gn = false ∧ oneE ⟨ky, Gy, exy, ly⟩ = false
    · obtain ⟨rfl, hon⟩ := hon
      rw [hon] at f2
      have HS2 := Lib.hid (show refStep (X.map Ev.e) ⟨⟨ky, Gy, exy, ly⟩, false⟩ = X.map Ev.e by unfold refStep; rw [if_pos (by simp [hon])])
      clear f3 HST HC FC hon HPL
      go_enter Try.func22, Try.ntmps22
      go_wp2_with (first | ((first | (refine iL tab_ok rfl ?_ rfl hH ?_; (focus first|exact wN rfl|exact rfl); refine ⟨_, _, rfl, rfl, ?_⟩) | (refine hBx rfl ?_ rfl hH ?_ ?_; (focus first|exact wN rfl|exact rfl); (focus (repeat (first | exact trivial | assumption | exact OkA.z (by kernel_rfl) (by kernel_rfl) | refine ⟨rfl, ?_⟩ | refine ⟨?_, ?_⟩)))) | ((with_reducible refine callH hH ?_); refine ⟨?_, ?_, ?_⟩; rotate_left; (focus (first | (exact f1 _ _ _) | (exact f2.out _ hH.below))))); clear hH; (first | intro W g hH | intro W hH); ((try simp only [Act.put, pA, pB, pC]))))
      go_ret
      exact HSAME.out HS2.out _ _ _ hH
    · have HOK := Lib.hid (show (!placedE ⟨ky, Gy, exy, ly⟩ || (!gn && !oneE ⟨ky, Gy, exy, ly⟩)) = false by rw [HPL.out]; cases gn <;> cases hq : oneE ⟨ky, Gy, exy, ly⟩ <;> simp_all)
      have hon2 : gn = false → oneE ⟨ky, Gy, exy, ly⟩ = true := fun hg => by cases hq : oneE ⟨ky, Gy, exy, ly⟩ <;> simp_all
      have hf2 : gn = false → ∀ W, Below w.heap.size w W → Gives Try.prog 32 #[.agg (fls [.one (.int .i64 ky), .many Y 17, .one (.bool exy), .one (.slice sy ly.length cy)]).toArray] W (.bool true) := fun hg W hb => by
        have := f2.out W hb
        rwa [hon2 hg] at this
      have HF2 := Lib.hid hf2
      clear hf2 hon2 f2 hon
      obtain ⟨i, hi⟩ : ∃ i, findR (X.map Ev.e) ⟨ky, Gy, exy, ly⟩ 0 = i := ⟨_, rfl⟩
      rw [hi] at f3
      by_cases hno : i < 0 ∧ (gn = true ∨ 512 ≤ X.length)
      · have HS2 := Lib.hid (show refStep (X.map Ev.e) ⟨⟨ky, Gy, exy, ly⟩, gn⟩ = X.map Ev.e by unfold refStep; rw [if_neg (by rw [HOK.out]; simp), hi, if_pos (by rw [List.length_map]; exact hno)])
        obtain ⟨hi0, hno⟩ := hno
        have di : decide (i < 0) = true := decide_eq_true hi0
        clear hi HST HC FC
        cases gn with
        | true =>
          clear hno
          go_enter Try.func22, Try.ntmps22
          go_wp2_with (first | ((first | (refine iL tab_ok rfl ?_ rfl hH ?_; (focus first|exact wN rfl|exact rfl); refine ⟨_, _, rfl, rfl, ?_⟩) | (refine hBx rfl ?_ rfl hH ?_ ?_; (focus first|exact wN rfl|exact rfl); (focus (repeat (first | exact trivial | assumption | exact OkA.z (by kernel_rfl) (by kernel_rfl) | refine ⟨rfl, ?_⟩ | refine ⟨?_, ?_⟩)))) | ((with_reducible refine callH hH ?_); refine ⟨?_, ?_, ?_⟩; rotate_left; (focus (first | (exact f1 _ _ _) | (exact f3.out _ hH.below))))); clear hH; (first | intro W g hH | intro W hH); ((try simp only [Act.put, pA, pB, pC]))))
          go_ret
          exact HSAME.out HS2.out _ _ _ hH
        | false =>
          have hX : 512 ≤ X.length := by simpa using hno
          have f2 := Lib.hid (HF2.out rfl)
          have d5 : decide ((X.length : Int) ≥ 512) = true := decide_eq_true (by omega)
          have d6 : decide ((512 : Int) ≤ (X.length : Int)) = true := decide_eq_true (by omega)
          clear hno
          go_enter Try.func22, Try.ntmps22
          go_wp2_with (first | ((first | (refine iL tab_ok rfl ?_ rfl hH ?_; (focus first|exact wN rfl|exact rfl); refine ⟨_, _, rfl, rfl, ?_⟩) | (refine hBx rfl ?_ rfl hH ?_ ?_; (focus first|exact wN rfl|exact rfl); (focus (repeat (first | exact trivial | assumption | exact OkA.z (by kernel_rfl) (by kernel_rfl) | refine ⟨rfl, ?_⟩ | refine ⟨?_, ?_⟩)))) | ((with_reducible refine callH hH ?_); refine ⟨?_, ?_, ?_⟩; rotate_left; (focus (first | (exact f1 _ _ _) | (exact f2.out _ hH.below) | (exact f3.out _ hH.below))))); clear hH; (first | intro W g hH | intro W hH); ((try simp only [Act.put, pA, pB, pC]))))
          go_ret
          exact HSAME.out HS2.out _ _ _ hH
      · have HS2 := Lib.hid (show refStep (X.map Ev.e) ⟨⟨ky, Gy, exy, ly⟩, gn⟩ = endR ⟨ky, Gy, exy, ly⟩ (goR (insR ⟨ky, Gy, exy, ly⟩) ⟨ky, Gy, exy, ly⟩ i 0 gn (X.map Ev.e) []) by unfold refStep; rw [if_neg (by rw [HOK.out]; simp), hi, if_neg (by rw [List.length_map]; exact hno)])
        have HNO := Lib.hid hno
        clear hi HST HSAME hno HOK
        obtain ⟨res, hres⟩ : ∃ r, goR (fun a : Ev => insR ⟨ky, Gy, exy, ly⟩ a.e) ⟨⟨ky, Gy, exy, ly⟩, sy, cy⟩ i 0 gn X [] = r := ⟨_, rfl⟩
        have HEND := Lib.hid (show ∀ (w' : World) (g c q : Nat) (J : List Value), Hp w.heap.size w w' [(g, 30, true, [.many (evsL (endR ⟨⟨ky, Gy, exy, ly⟩, sy, cy⟩ res)) ((endR ⟨⟨ky, Gy, exy, ly⟩, sy, cy⟩ res).length * 20), .many J q])] → RApP w X p ⟨⟨ky, Gy, exy, ly⟩, gn⟩ sy cy (.returned (.slice (some ⟨g, 0, none⟩) (endR ⟨⟨ky, Gy, exy, ly⟩, sy, cy⟩ res).length c)) w' from fun w' g c q J hH => by
          have hm := goR_map (y := ⟨⟨ky, Gy, exy, ly⟩, sy, cy⟩) (i := i) (x := ⟨ky, Gy, exy, ly⟩) rfl X [] 0 gn
          rw [hres] at hm
          refine RApP.new ?_ (fun z hz => ?_) hH
          · rw [HS2.out]
            exact endR_map rfl hm.1 hm.2
          · unfold endR at hz
            have h2 : z ∈ res.1 → z ∈ X ∨ z = ⟨⟨ky, Gy, exy, ly⟩, sy, cy⟩ := fun hz => by
              rw [← hres] at hz
              rcases goR_mem _ _ _ _ hz with h | h | h
              · cases h
              · exact .inl h
              · exact .inr h
            split at hz
            · exact h2 hz
            · rcases List.mem_append.1 hz with h | h
              · exact h2 h
              · exact .inr (by simpa using h))
        have HRES := Lib.hid hres
        clear hres HS2
        have hreach : ∀ (R : World → Prop), True := fun _ => trivial
        clear hreach
        cases gn with
        | true =>
          have hi0 : 0 ≤ i := by have := HNO.out; simp at this; omega
          have di : decide (i < 0) = false := decide_eq_false (by omega)
          go_enter Try.func22, Try.ntmps22
          go_wp2_with (first | ((first | (refine iL tab_ok rfl ?_ rfl hH ?_; (focus first|exact wN rfl|exact rfl); refine ⟨_, _, rfl, rfl, ?_⟩) | (refine hBx rfl ?_ rfl hH ?_ ?_; (focus first|exact wN rfl|exact rfl); (focus (repeat (first | exact trivial | assumption | exact OkA.z (by kernel_rfl) (by kernel_rfl) | refine ⟨rfl, ?_⟩ | refine ⟨?_, ?_⟩)))) | ((with_reducible refine callH hH ?_); refine ⟨?_, ?_, ?_⟩; rotate_left; (focus (first | (exact f1 _ _ _) | (exact f3.out _ hH.below))))); clear hH; (first | intro W g hH | intro W hH); ((try simp only [Act.put, pA, pB, pC]))))
          obtain ⟨g3, hg3⟩ : ∃ x, x = g := ⟨_, rfl⟩
          subst hg3
          ((with_reducible apply regK1 [] hH (SubH.refl) (by kernel_rfl)); (focus ((intro W hH); (refine hk_pures (fuel := 4) (pk 1 rfl (PickR.nil)) (by kernel_rfl) (by kernel_rfl) (fun _ _ _ _ _ h => h) ?_; (repeat (go_big_quiet_step (fail))); refine hk_nil ?_); (refine hk_loads (fuel := 3) (pk 2 rfl (PickR.nil)) (by kernel_rfl) (by kernel_rfl) (fun _ _ _ _ _ h => h) hH ?_ ?_; (focus (exact SubI.h)); intro hne; (repeat (first | (go_big_quiet_want; (first | (refine qiL tab_ok rfl rfl ?_; refine ⟨_, _, rfl, rfl, ?_⟩)); (try simp only [Act.put, pA, pB, pC]); go_big_quiet_on) | go_big_quiet_step (fail))); refine hk_nil ?_; clear hne); (refine hk_one (fuel := 2) 0 rfl (by kernel_rfl) ?_; go_wp2_with (first | ((refine hSl0 tab_ok rfl ?_ tabs_ok rfl rfl rfl hH ?_; (focus first|exact wN rfl|exact rfl); clear hH; intro W g hH; (try simp only [Act.put, pA, pB, pC])))); refine hkQ_normal hH ?_ ?_; (focus (exact SubI.h)); (try simp only [Act.put, pA, pB, pC])); (refine hk_pures (fuel := 0) (pk 3 rfl (pk 4 rfl (PickR.nil))) (by kernel_rfl) (by kernel_rfl) (fun _ _ _ _ _ h => h) ?_; (repeat (go_big_quiet_step (fail))); refine hk_nil ?_); exact hk_end (by kernel_rfl) ⟨g, rfl, hH⟩)); ((try clear hH); intro W g hH))
          go_wp2_with (fail)
          skip
          go_loopw [6, 7, 8] (fun s6 s7 s8 wr => ∃ (k : Nat) (d : Bool) (Xo : List Ev) (g cc q : Nat) (J : List Value), s8 = .int .i64 (k : Int) ∧ s7 = .bool d ∧ k ≤ X.length ∧ Xo.length ≤ 2 * k ∧ s6 = .slice (some ⟨g, 0, none⟩) Xo.length cc ∧ Hid (goR (fun a : Ev => insR ⟨ky, Gy, exy, ly⟩ a.e) (⟨⟨ky, Gy, exy, ly⟩, sy, cy⟩ : Ev) i k d (X.drop k) Xo = res) ∧ Grow 20 Xo.length cc (Xo.length * 20) q ∧ OkA J q ∧ Hp w.heap.size w wr [(g, 30, true, [.many (evsL Xo) (Xo.length * 20), .many J q]), (g3, 37, true, [.one (.int .i64 ky), .many Y 17, .one (.bool exy), .one (.slice sy ly.length cy), .one (.bool true)])]) (fun _ _ s8 _ => X.length - (intOf s8).toNat)
          case atStart => exact ⟨0, true, [], _, 0, 0, [], rfl, rfl, by omega, by simp, rfl, by rw [List.drop_zero]; exact HRES, ⟨rfl, rfl, Nat.le_refl _, by simp [maxLen]⟩, ⟨rfl, by simp⟩, hH⟩
          case round =>
            clear hH HRES
            obtain ⟨k, d, Xo, g, cc, q, J, rfl, rfl, hk, hXo, rfl, HR, hG, oJ, hH⟩ := hrel
            by_cases hkl : k < X.length
            · have dk : decide ((k : Int) < (X.length : Int)) = true := decide_eq_true (by omega)
              have hX2 : Xo.length ≤ 2000 := by omega
              have hr := HR.out
              rw [List.drop_eq_getElem_cons hkl] at hr
              unfold goR at hr
              obtain ⟨qa, ha, fA⟩ := HC.out k hkl
              subst ha
              have fC := fun w => FC.out X[k] w
              clear HR HC FC f1 f3 HF2 HNO HPL HEND
              generalize X[k] = a at *
              obtain ⟨⟨ka, Ga, exa, la⟩, pa, ca⟩ := a
              unfold evS enS at fA
              simp only at fA fC hr
              have oA := adL_ok Ga
              obtain ⟨YA, hYA⟩ : ∃ Y, Y = adL Ga := ⟨_, rfl⟩
              rw [← hYA] at oA fA fC
              have HYA := Lib.hid hYA
              clear hYA
              obtain ⟨z, hz⟩ : ∃ z, cmpE ⟨ky, Gy, exy, ly⟩ ⟨ka, Ga, exa, la⟩ = z := ⟨_, rfl⟩
              rw [hz] at fC
              have hin : insR ⟨ky, Gy, exy, ly⟩ ⟨ka, Ga, exa, la⟩ = decide (z ≠ 1) := by unfold insR; rw [hz]
              rw [hin] at hr
              clear hz hin
              cases d with
              | true =>
                by_cases hki : (k : Int) = i
                · have HR := Lib.hid (show goR (fun a : Ev => insR ⟨ky, Gy, exy, ly⟩ a.e) (⟨⟨ky, Gy, exy, ly⟩, sy, cy⟩ : Ev) i (k + 1) true (X.drop (k + 1)) (Xo) = res by rw [if_pos hki] at hr; simpa using hr)
                  have dki : ((k : Int) != i) = false := by simpa using hki
                  clear hr
                  clear hki
                  go_wp2_with (fail)
                  ((with_reducible refine regKN [] hH (SubH.refl) (by kernel_rfl) ?_); (clear hH; intro W hH); (refine hk_pures (fuel := 5) (pk 0 rfl (pk 1 rfl (pk 2 rfl (pk 3 rfl (pk 5 rfl (pk 6 rfl (pk 7 rfl (PickR.nil)))))))) (by kernel_rfl) (by kernel_rfl) (fun _ _ _ _ _ h => h) ?_; (repeat (go_big_quiet_step (fail))); refine hk_nil ?_); (refine hk_loads (fuel := 3) (pk 4 rfl (pk 8 rfl (PickR.nil))) (by kernel_rfl) (by kernel_rfl) (fun _ _ _ _ _ h => h) hH ?_ ?_; (focus (exact SubI.h)); intro hne; (repeat (go_big_quiet_step (fail))); refine hk_nil ?_; clear hne); (refine hk_one (fuel := 2) 9 rfl (by kernel_rfl) ?_; go_wp2_with (fail); refine hkQ_normal hH ?_ ?_; (focus (exact SubI.h)); (try simp only [Act.put, pA, pB, pC])); (refine hk_pures (fuel := 0) (pk 10 rfl (pk 11 rfl (PickR.nil))) (by kernel_rfl) (by kernel_rfl) (fun _ _ _ _ _ h => h) ?_; (repeat (go_big_quiet_step (fail))); refine hk_nil ?_); refine hk_endN (by kernel_rfl) ?_)
                  go_wp2_with (fail)
                  exact ⟨⟨k + 1, true, Xo, g, cc, q, J, by simp, rfl, by omega, by omega, rfl, HR, hG, oJ, hH⟩, by simp [intOf]; omega⟩
                · have HR := Lib.hid (show goR (fun a : Ev => insR ⟨ky, Gy, exy, ly⟩ a.e) (⟨⟨ky, Gy, exy, ly⟩, sy, cy⟩ : Ev) i (k + 1) true (X.drop (k + 1)) (Xo ++ [(⟨⟨ka, Ga, exa, la⟩, pa, ca⟩ : Ev)]) = res by rw [if_neg hki] at hr; simpa using hr)
                  have dki : ((k : Int) != i) = true := by simpa using hki
                  clear hr
                  go_wp2_with (fail)
                  ((with_reducible refine regKN [] hH (SubH.refl) (by kernel_rfl) ?_); (clear hH; intro W hH); (refine hk_pures (fuel := 5) (pk 0 rfl (pk 1 rfl (pk 2 rfl (pk 3 rfl (pk 5 rfl (pk 6 rfl (pk 7 rfl (PickR.nil)))))))) (by kernel_rfl) (by kernel_rfl) (fun _ _ _ _ _ h => h) ?_; (repeat (go_big_quiet_step (fail))); refine hk_nil ?_); (refine hk_loads (fuel := 3) (pk 4 rfl (pk 8 rfl (PickR.nil))) (by kernel_rfl) (by kernel_rfl) (fun _ _ _ _ _ h => h) hH ?_ ?_; (focus (exact SubI.h)); intro hne; (repeat (go_big_quiet_step (fail))); refine hk_nil ?_; clear hne); (refine hk_one (fuel := 2) 9 rfl (by kernel_rfl) ?_; go_wp2_with (fail); refine hkQ_normal hH ?_ ?_; (focus (exact SubI.h)); (try simp only [Act.put, pA, pB, pC])); (refine hk_pures (fuel := 0) (pk 10 rfl (pk 11 rfl (PickR.nil))) (by kernel_rfl) (by kernel_rfl) (fun _ _ _ _ _ h => h) ?_; (repeat (go_big_quiet_step (fail))); refine hk_nil ?_); refine hk_endN (by kernel_rfl) ?_)
                  go_wp2_with (first | ((refine gL rfl ?_; refine hLoR tab_ok rfl ?_ rfl hH rfl rfl ?_; (focus first|exact wN rfl|exact rfl); refine ⟨_, fA, ⟨rfl, oA, rfl, rfl, trivial⟩, rfl, ?_⟩; (clear hH; (first | intro W g hH | intro W hH); (try simp only [Act.put, pA, pB, pC])))) | ((refine hSl tab_ok rfl ?_ rfl tabs_ok rfl rfl rfl rfl rfl hH ?_; (focus first|exact wN rfl|exact rfl); refine ⟨?_, ?_, ?_⟩; rotate_left; (focus (repeat (first | exact BR.nil | refine BR.one rfl rfl rfl ?_ | (refine BR.row rfl rfl rfl rfl ?_ ?_; (focus (repeat (first | exact trivial | assumption | exact OkA.z (by kernel_rfl) (by kernel_rfl) | refine ⟨rfl, ?_⟩ | refine ⟨?_, ?_⟩))))))); clear hH; intro W g hH; (try simp only [Act.put, pA, pB, pC]))) | (((first | (refine hApp 1 0 tab_ok tabs_ok rfl rfl rfl rfl rfl rfl rfl hH rfl rfl rfl rfl ?_; refine ⟨?_, ?_, ?_⟩; (focus assumption); (focus (first | omega | (simp; omega))))); clear hH; intro W g c p q J hG hL hJ hH; (try simp only [putH, fls, List.append_nil] at hH hL); (try simp only [Act.put, pA, pB, pC]))))
                  have hp := hG.hp
                  have hq := hG.hq
                  have hle := hG.le
                  have hmo := hG.most
                  clear hG
                  have e1 : (Xo ++ [(⟨⟨ka, Ga, exa, la⟩, pa, ca⟩ : Ev)]).length = Xo.length + 1 := by simp
                  have e2 : evsL (Xo ++ [(⟨⟨ka, Ga, exa, la⟩, pa, ca⟩ : Ev)]) = evsL Xo ++ (.int .i64 ka :: (YA ++ [.bool exa, .slice pa la.length ca])) := by rw [evsL_snoc, HYA.out]; rfl
                  refine ⟨⟨k + 1, true, (Xo ++ [(⟨⟨ka, Ga, exa, la⟩, pa, ca⟩ : Ev)]), g, c, q, J, by simp, rfl, by omega, by rw [e1]; omega, by rw [e1] <;> simp, HR, by rw [e1]; exact ⟨rfl, by rw [← hq, hp] <;> rfl, hle, hmo⟩, hJ, ?_⟩, by simp [intOf]; omega⟩
                  rw [show (Xo ++ [(⟨⟨ka, Ga, exa, la⟩, pa, ca⟩ : Ev)]).length * 20 = p by rw [hp, e1] <;> rfl, e2]
                  exact hH.sub (SubH.drop (SubH.refl))
              | false =>
                by_cases hz1 : z = 1
                · subst hz1
                  by_cases hki : (k : Int) = i
                  · have HR := Lib.hid (show goR (fun a : Ev => insR ⟨ky, Gy, exy, ly⟩ a.e) (⟨⟨ky, Gy, exy, ly⟩, sy, cy⟩ : Ev) i (k + 1) false (X.drop (k + 1)) (Xo) = res by rw [if_pos hki] at hr; simpa using hr)
                    have dki : ((k : Int) != i) = false := by simpa using hki
                    clear hr
                    clear hki
                    go_wp2_with (fail)
                    ((with_reducible refine regKN [] hH (SubH.refl) (by kernel_rfl) ?_); (clear hH; intro W hH); (refine hk_pures (fuel := 5) (pk 0 rfl (pk 1 rfl (pk 2 rfl (pk 3 rfl (pk 5 rfl (pk 6 rfl (pk 7 rfl (PickR.nil)))))))) (by kernel_rfl) (by kernel_rfl) (fun _ _ _ _ _ h => h) ?_; (repeat (go_big_quiet_step (fail))); refine hk_nil ?_); (refine hk_loads (fuel := 3) (pk 4 rfl (pk 8 rfl (PickR.nil))) (by kernel_rfl) (by kernel_rfl) (fun _ _ _ _ _ h => h) hH ?_ ?_; (focus (exact SubI.h)); intro hne; (repeat (first | (go_big_quiet_want; (first | (refine qiL tab_ok rfl rfl ?_; refine ⟨_, _, rfl, rfl, ?_⟩) | ((first | (refine qLoR tab_ok rfl rfl rfl rfl ?_; refine ⟨_, fA, ⟨rfl, oA, rfl, rfl, trivial⟩, rfl, ?_⟩)))); (try simp only [Act.put, pA, pB, pC]); go_big_quiet_on) | go_big_quiet_step (fail))); refine hk_nil ?_; clear hne); (refine hk_one (fuel := 2) 9 rfl (by kernel_rfl) ?_; go_wp2_with (first | ((first | ((with_reducible refine callH hH ?_); refine ⟨?_, ?_, ?_⟩; rotate_left; (focus (first | (with_reducible exact fC _))))); clear hH; (first | intro W g hH | intro W hH); ((try simp only [Act.put, pA, pB, pC])))); refine hkQ_normal hH ?_ ?_; (focus (exact SubI.h)); (try simp only [Act.put, pA, pB, pC])); (refine hk_pures (fuel := 0) (pk 10 rfl (pk 11 rfl (PickR.nil))) (by kernel_rfl) (by kernel_rfl) (fun _ _ _ _ _ h => h) ?_; (repeat (go_big_quiet_step (fail))); refine hk_nil ?_); refine hk_endN (by kernel_rfl) ?_)
                    go_wp2_with (fail)
                    exact ⟨⟨k + 1, false, Xo, g, cc, q, J, by simp, rfl, by omega, by omega, rfl, HR, hG, oJ, hH⟩, by simp [intOf]; omega⟩
                  · have HR := Lib.hid (show goR (fun a : Ev => insR ⟨ky, Gy, exy, ly⟩ a.e) (⟨⟨ky, Gy, exy, ly⟩, sy, cy⟩ : Ev) i (k + 1) false (X.drop (k + 1)) (Xo ++ [(⟨⟨ka, Ga, exa, la⟩, pa, ca⟩ : Ev)]) = res by rw [if_neg hki] at hr; simpa using hr)
                    have dki : ((k : Int) != i) = true := by simpa using hki
                    clear hr
                    go_wp2_with (fail)
                    ((with_reducible refine regKN [] hH (SubH.refl) (by kernel_rfl) ?_); (clear hH; intro W hH); (refine hk_pures (fuel := 5) (pk 0 rfl (pk 1 rfl (pk 2 rfl (pk 3 rfl (pk 5 rfl (pk 6 rfl (pk 7 rfl (PickR.nil)))))))) (by kernel_rfl) (by kernel_rfl) (fun _ _ _ _ _ h => h) ?_; (repeat (go_big_quiet_step (fail))); refine hk_nil ?_); (refine hk_loads (fuel := 3) (pk 4 rfl (pk 8 rfl (PickR.nil))) (by kernel_rfl) (by kernel_rfl) (fun _ _ _ _ _ h => h) hH ?_ ?_; (focus (exact SubI.h)); intro hne; (repeat (first | (go_big_quiet_want; (first | (refine qiL tab_ok rfl rfl ?_; refine ⟨_, _, rfl, rfl, ?_⟩) | ((first | (refine qLoR tab_ok rfl rfl rfl rfl ?_; refine ⟨_, fA, ⟨rfl, oA, rfl, rfl, trivial⟩, rfl, ?_⟩)))); (try simp only [Act.put, pA, pB, pC]); go_big_quiet_on) | go_big_quiet_step (fail))); refine hk_nil ?_; clear hne); (refine hk_one (fuel := 2) 9 rfl (by kernel_rfl) ?_; go_wp2_with (first | ((first | ((with_reducible refine callH hH ?_); refine ⟨?_, ?_, ?_⟩; rotate_left; (focus (first | (with_reducible exact fC _))))); clear hH; (first | intro W g hH | intro W hH); ((try simp only [Act.put, pA, pB, pC])))); refine hkQ_normal hH ?_ ?_; (focus (exact SubI.h)); (try simp only [Act.put, pA, pB, pC])); (refine hk_pures (fuel := 0) (pk 10 rfl (pk 11 rfl (PickR.nil))) (by kernel_rfl) (by kernel_rfl) (fun _ _ _ _ _ h => h) ?_; (repeat (go_big_quiet_step (fail))); refine hk_nil ?_); refine hk_endN (by kernel_rfl) ?_)
                    go_wp2_with (first | ((refine gL rfl ?_; refine hLoR tab_ok rfl ?_ rfl hH rfl rfl ?_; (focus first|exact wN rfl|exact rfl); refine ⟨_, fA, ⟨rfl, oA, rfl, rfl, trivial⟩, rfl, ?_⟩; (clear hH; (first | intro W g hH | intro W hH); (try simp only [Act.put, pA, pB, pC])))) | ((refine hSl tab_ok rfl ?_ rfl tabs_ok rfl rfl rfl rfl rfl hH ?_; (focus first|exact wN rfl|exact rfl); refine ⟨?_, ?_, ?_⟩; rotate_left; (focus (repeat (first | exact BR.nil | refine BR.one rfl rfl rfl ?_ | (refine BR.row rfl rfl rfl rfl ?_ ?_; (focus (repeat (first | exact trivial | assumption | exact OkA.z (by kernel_rfl) (by kernel_rfl) | refine ⟨rfl, ?_⟩ | refine ⟨?_, ?_⟩))))))); clear hH; intro W g hH; (try simp only [Act.put, pA, pB, pC]))) | (((first | (refine hApp 1 0 tab_ok tabs_ok rfl rfl rfl rfl rfl rfl rfl hH rfl rfl rfl rfl ?_; refine ⟨?_, ?_, ?_⟩; (focus assumption); (focus (first | omega | (simp; omega))))); clear hH; intro W g c p q J hG hL hJ hH; (try simp only [putH, fls, List.append_nil] at hH hL); (try simp only [Act.put, pA, pB, pC]))))
                    have hp := hG.hp
                    have hq := hG.hq
                    have hle := hG.le
                    have hmo := hG.most
                    clear hG
                    have e1 : (Xo ++ [(⟨⟨ka, Ga, exa, la⟩, pa, ca⟩ : Ev)]).length = Xo.length + 1 := by simp
                    have e2 : evsL (Xo ++ [(⟨⟨ka, Ga, exa, la⟩, pa, ca⟩ : Ev)]) = evsL Xo ++ (.int .i64 ka :: (YA ++ [.bool exa, .slice pa la.length ca])) := by rw [evsL_snoc, HYA.out]; rfl
                    refine ⟨⟨k + 1, false, (Xo ++ [(⟨⟨ka, Ga, exa, la⟩, pa, ca⟩ : Ev)]), g, c, q, J, by simp, rfl, by omega, by rw [e1]; omega, by rw [e1] <;> simp, HR, by rw [e1]; exact ⟨rfl, by rw [← hq, hp] <;> rfl, hle, hmo⟩, hJ, ?_⟩, by simp [intOf]; omega⟩
                    rw [show (Xo ++ [(⟨⟨ka, Ga, exa, la⟩, pa, ca⟩ : Ev)]).length * 20 = p by rw [hp, e1] <;> rfl, e2]
                    exact hH.sub (SubH.drop (SubH.refl))
                · have dz : (z != 1) = true := by simpa using hz1
                  have dz2 : decide (z ≠ 1) = true := decide_eq_true hz1
                  rw [dz2] at hr
                  clear dz2
                  by_cases hki : (k : Int) = i
                  · have HR := Lib.hid (show goR (fun a : Ev => insR ⟨ky, Gy, exy, ly⟩ a.e) (⟨⟨ky, Gy, exy, ly⟩, sy, cy⟩ : Ev) i (k + 1) true (X.drop (k + 1)) (Xo ++ [(⟨⟨ky, Gy, exy, ly⟩, sy, cy⟩ : Ev)]) = res by rw [if_pos hki] at hr; simpa using hr)
                    have dki : ((k : Int) != i) = false := by simpa using hki
                    clear hr hz1
                    clear hki
                    go_wp2_with (fail)
                    ((with_reducible refine regKN [] hH (SubH.refl) (by kernel_rfl) ?_); (clear hH; intro W hH); (refine hk_pures (fuel := 5) (pk 0 rfl (pk 1 rfl (pk 2 rfl (pk 3 rfl (pk 5 rfl (pk 6 rfl (pk 7 rfl (PickR.nil)))))))) (by kernel_rfl) (by kernel_rfl) (fun _ _ _ _ _ h => h) ?_; (repeat (go_big_quiet_step (fail))); refine hk_nil ?_); (refine hk_loads (fuel := 3) (pk 4 rfl (pk 8 rfl (PickR.nil))) (by kernel_rfl) (by kernel_rfl) (fun _ _ _ _ _ h => h) hH ?_ ?_; (focus (exact SubI.h)); intro hne; (repeat (first | (go_big_quiet_want; (first | (refine qiL tab_ok rfl rfl ?_; refine ⟨_, _, rfl, rfl, ?_⟩) | ((first | (refine qLoR tab_ok rfl rfl rfl rfl ?_; refine ⟨_, fA, ⟨rfl, oA, rfl, rfl, trivial⟩, rfl, ?_⟩)))); (try simp only [Act.put, pA, pB, pC]); go_big_quiet_on) | go_big_quiet_step (fail))); refine hk_nil ?_; clear hne); (refine hk_one (fuel := 2) 9 rfl (by kernel_rfl) ?_; go_wp2_with (first | ((first | ((with_reducible refine callH hH ?_); refine ⟨?_, ?_, ?_⟩; rotate_left; (focus (first | (with_reducible exact fC _))))); clear hH; (first | intro W g hH | intro W hH); ((try simp only [Act.put, pA, pB, pC])))); refine hkQ_normal hH ?_ ?_; (focus (exact SubI.h)); (try simp only [Act.put, pA, pB, pC])); (refine hk_pures (fuel := 0) (pk 10 rfl (pk 11 rfl (PickR.nil))) (by kernel_rfl) (by kernel_rfl) (fun _ _ _ _ _ h => h) ?_; (repeat (go_big_quiet_step (fail))); refine hk_nil ?_); refine hk_endN (by kernel_rfl) ?_)
                    go_wp2_with (first | ((refine hSl tab_ok rfl ?_ rfl tabs_ok rfl rfl rfl rfl rfl hH ?_; (focus first|exact wN rfl|exact rfl); refine ⟨?_, ?_, ?_⟩; rotate_left; (focus (repeat (first | exact BR.nil | refine BR.one rfl rfl rfl ?_ | (refine BR.row rfl rfl rfl rfl ?_ ?_; (focus (repeat (first | exact trivial | assumption | exact OkA.z (by kernel_rfl) (by kernel_rfl) | refine ⟨rfl, ?_⟩ | refine ⟨?_, ?_⟩))))))); clear hH; intro W g hH; (try simp only [Act.put, pA, pB, pC]))) | (((first | (refine hApp 1 0 tab_ok tabs_ok rfl rfl rfl rfl rfl rfl rfl hH rfl rfl rfl rfl ?_; refine ⟨?_, ?_, ?_⟩; (focus assumption); (focus (first | omega | (simp; omega))))); clear hH; intro W g c p q J hG hL hJ hH; (try simp only [putH, fls, List.append_nil] at hH hL); (try simp only [Act.put, pA, pB, pC]))) | ((first | (refine iL tab_ok rfl ?_ rfl hH ?_; (focus first|exact wN rfl|exact rfl); refine ⟨_, _, rfl, rfl, ?_⟩)); clear hH; (first | intro W g hH | intro W hH); ((try simp only [Act.put, pA, pB, pC]))))
                    have hp := hG.hp
                    have hq := hG.hq
                    have hle := hG.le
                    have hmo := hG.most
                    clear hG
                    have e1 : (Xo ++ [(⟨⟨ky, Gy, exy, ly⟩, sy, cy⟩ : Ev)]).length = Xo.length + 1 := by simp
                    have e2 : evsL (Xo ++ [(⟨⟨ky, Gy, exy, ly⟩, sy, cy⟩ : Ev)]) = evsL Xo ++ (.int .i64 ky :: (Y ++ [.bool exy, .slice sy ly.length cy])) := by rw [evsL_snoc, HY.out]; rfl
                    refine ⟨⟨k + 1, true, (Xo ++ [(⟨⟨ky, Gy, exy, ly⟩, sy, cy⟩ : Ev)]), g, c, q, J, by simp, rfl, by omega, by rw [e1]; omega, by rw [e1] <;> simp, HR, by rw [e1]; exact ⟨rfl, by rw [← hq, hp] <;> rfl, hle, hmo⟩, hJ, ?_⟩, by simp [intOf]; omega⟩
                    rw [show (Xo ++ [(⟨⟨ky, Gy, exy, ly⟩, sy, cy⟩ : Ev)]).length * 20 = p by rw [hp, e1] <;> rfl, e2]
                    exact hH.sub (SubH.drop (SubH.refl))
                  · have HR := Lib.hid (show goR (fun a : Ev => insR ⟨ky, Gy, exy, ly⟩ a.e) (⟨⟨ky, Gy, exy, ly⟩, sy, cy⟩ : Ev) i (k + 1) true (X.drop (k + 1)) (Xo ++ [(⟨⟨ky, Gy, exy, ly⟩, sy, cy⟩ : Ev)] ++ [(⟨⟨ka, Ga, exa, la⟩, pa, ca⟩ : Ev)]) = res by rw [if_neg hki] at hr; simpa using hr)
                    have dki : ((k : Int) != i) = true := by simpa using hki
                    clear hr hz1
                    go_wp2_with (fail)
                    ((with_reducible refine regKN [] hH (SubH.refl) (by kernel_rfl) ?_); (clear hH; intro W hH); (refine hk_pures (fuel := 5) (pk 0 rfl (pk 1 rfl (pk 2 rfl (pk 3 rfl (pk 5 rfl (pk 6 rfl (pk 7 rfl (PickR.nil)))))))) (by kernel_rfl) (by kernel_rfl) (fun _ _ _ _ _ h => h) ?_; (repeat (go_big_quiet_step (fail))); refine hk_nil ?_); (refine hk_loads (fuel := 3) (pk 4 rfl (pk 8 rfl (PickR.nil))) (by kernel_rfl) (by kernel_rfl) (fun _ _ _ _ _ h => h) hH ?_ ?_; (focus (exact SubI.h)); intro hne; (repeat (first | (go_big_quiet_want; (first | (refine qiL tab_ok rfl rfl ?_; refine ⟨_, _, rfl, rfl, ?_⟩) | ((first | (refine qLoR tab_ok rfl rfl rfl rfl ?_; refine ⟨_, fA, ⟨rfl, oA, rfl, rfl, trivial⟩, rfl, ?_⟩)))); (try simp only [Act.put, pA, pB, pC]); go_big_quiet_on) | go_big_quiet_step (fail))); refine hk_nil ?_; clear hne); (refine hk_one (fuel := 2) 9 rfl (by kernel_rfl) ?_; go_wp2_with (first | ((first | ((with_reducible refine callH hH ?_); refine ⟨?_, ?_, ?_⟩; rotate_left; (focus (first | (with_reducible exact fC _))))); clear hH; (first | intro W g hH | intro W hH); ((try simp only [Act.put, pA, pB, pC])))); refine hkQ_normal hH ?_ ?_; (focus (exact SubI.h)); (try simp only [Act.put, pA, pB, pC])); (refine hk_pures (fuel := 0) (pk 10 rfl (pk 11 rfl (PickR.nil))) (by kernel_rfl) (by kernel_rfl) (fun _ _ _ _ _ h => h) ?_; (repeat (go_big_quiet_step (fail))); refine hk_nil ?_); refine hk_endN (by kernel_rfl) ?_)
                    go_wp2_with (first | ((refine gL rfl ?_; refine hLoR tab_ok rfl ?_ rfl hH rfl rfl ?_; (focus first|exact wN rfl|exact rfl); refine ⟨_, fA, ⟨rfl, oA, rfl, rfl, trivial⟩, rfl, ?_⟩; (clear hH; (first | intro W g hH | intro W hH); (try simp only [Act.put, pA, pB, pC])))) | ((refine hSl tab_ok rfl ?_ rfl tabs_ok rfl rfl rfl rfl rfl hH ?_; (focus first|exact wN rfl|exact rfl); refine ⟨?_, ?_, ?_⟩; rotate_left; (focus (repeat (first | exact BR.nil | refine BR.one rfl rfl rfl ?_ | (refine BR.row rfl rfl rfl rfl ?_ ?_; (focus (repeat (first | exact trivial | assumption | exact OkA.z (by kernel_rfl) (by kernel_rfl) | refine ⟨rfl, ?_⟩ | refine ⟨?_, ?_⟩))))))); clear hH; intro W g hH; (try simp only [Act.put, pA, pB, pC]))) | (((first | (refine hApp 1 0 tab_ok tabs_ok rfl rfl rfl rfl rfl rfl rfl hH rfl rfl rfl rfl ?_; refine ⟨?_, ?_, ?_⟩; (focus assumption); (focus (first | omega | (simp; omega))))); clear hH; intro W g c p q J hG hL hJ hH; (try simp only [putH, fls, List.append_nil] at hH hL); (try simp only [Act.put, pA, pB, pC]))) | (((first | (refine hApp 2 0 tab_ok tabs_ok rfl rfl rfl rfl rfl rfl rfl hH rfl rfl rfl rfl ?_; refine ⟨?_, ?_, ?_⟩; (focus assumption); (focus (first | omega | (simp; omega))))); clear hH; intro W g c p q J hG hL hJ hH; (try simp only [putH, fls, List.append_nil] at hH hL); (try simp only [Act.put, pA, pB, pC]))) | ((first | (refine iL tab_ok rfl ?_ rfl hH ?_; (focus first|exact wN rfl|exact rfl); refine ⟨_, _, rfl, rfl, ?_⟩)); clear hH; (first | intro W g hH | intro W hH); ((try simp only [Act.put, pA, pB, pC]))))
                    have hp := hG.hp
                    have hq := hG.hq
                    have hle := hG.le
                    have hmo := hG.most
                    clear hG
                    have e1 : (Xo ++ [(⟨⟨ky, Gy, exy, ly⟩, sy, cy⟩ : Ev)] ++ [(⟨⟨ka, Ga, exa, la⟩, pa, ca⟩ : Ev)]).length = Xo.length + 1 + 1 := by simp
                    have e2 : evsL (Xo ++ [(⟨⟨ky, Gy, exy, ly⟩, sy, cy⟩ : Ev)] ++ [(⟨⟨ka, Ga, exa, la⟩, pa, ca⟩ : Ev)]) = evsL Xo ++ (.int .i64 ky :: (Y ++ [.bool exy, .slice sy ly.length cy])) ++ (.int .i64 ka :: (YA ++ [.bool exa, .slice pa la.length ca])) := by rw [evsL_snoc, evsL_snoc, HY.out, HYA.out]; rfl
                    refine ⟨⟨k + 1, true, (Xo ++ [(⟨⟨ky, Gy, exy, ly⟩, sy, cy⟩ : Ev)] ++ [(⟨⟨ka, Ga, exa, la⟩, pa, ca⟩ : Ev)]), g, c, q, J, by simp, rfl, by omega, by rw [e1]; omega, by rw [e1] <;> simp, HR, by rw [e1]; exact ⟨rfl, by rw [← hq, hp] <;> rfl, hle, hmo⟩, hJ, ?_⟩, by simp [intOf]; omega⟩
                    rw [show (Xo ++ [(⟨⟨ky, Gy, exy, ly⟩, sy, cy⟩ : Ev)] ++ [(⟨⟨ka, Ga, exa, la⟩, pa, ca⟩ : Ev)]).length * 20 = p by rw [hp, e1] <;> rfl, e2]
                    exact hH.sub (SubH.drop (SubH.drop (SubH.refl)))
            · have dk : decide ((k : Int) < (X.length : Int)) = false := decide_eq_false (by omega)
              have hX2 : Xo.length ≤ 2000 := by omega
              have hr := HR.out
              rw [List.drop_of_length_le (by omega)] at hr
              unfold goR at hr
              have hkl2 : X.length ≤ k := by omega
              clear HR HC FC f1 f3 HF2 HNO HPL
              cases d with
              | true =>
                have hfin : endR (⟨⟨ky, Gy, exy, ly⟩, sy, cy⟩ : Ev) res = Xo := by rw [← hr]; rfl
                rw [hfin] at HEND
                clear hr hfin
                go_wp2_with (fail)
                go_ret
                exact HEND.out _ _ _ _ _ (hH.sub (SubH.keep SubH.nil))
              | false =>
                have hfin : endR (⟨⟨ky, Gy, exy, ly⟩, sy, cy⟩ : Ev) res = Xo ++ [(⟨⟨ky, Gy, exy, ly⟩, sy, cy⟩ : Ev)] := by rw [← hr]; rfl
                rw [hfin] at HEND
                clear hr hfin
                go_wp2_with (first | ((refine hSl tab_ok rfl ?_ rfl tabs_ok rfl rfl rfl rfl rfl hH ?_; (focus first|exact wN rfl|exact rfl); refine ⟨?_, ?_, ?_⟩; rotate_left; (focus (repeat (first | exact BR.nil | refine BR.one rfl rfl rfl ?_ | (refine BR.row rfl rfl rfl rfl ?_ ?_; (focus (repeat (first | exact trivial | assumption | exact OkA.z (by kernel_rfl) (by kernel_rfl) | refine ⟨rfl, ?_⟩ | refine ⟨?_, ?_⟩))))))); clear hH; intro W g hH; (try simp only [Act.put, pA, pB, pC]))) | (((first | (refine hApp 1 0 tab_ok tabs_ok rfl rfl rfl rfl rfl rfl rfl hH rfl rfl rfl rfl ?_; refine ⟨?_, ?_, ?_⟩; (focus assumption); (focus (first | omega | (simp; omega))))); clear hH; intro W g c p q J hG hL hJ hH; (try simp only [putH, fls, List.append_nil] at hH hL); (try simp only [Act.put, pA, pB, pC]))) | ((first | (refine iL tab_ok rfl ?_ rfl hH ?_; (focus first|exact wN rfl|exact rfl); refine ⟨_, _, rfl, rfl, ?_⟩)); clear hH; (first | intro W g hH | intro W hH); ((try simp only [Act.put, pA, pB, pC]))))
                go_ret
                have hp := hG.hp
                clear hG
                have e1 : (Xo ++ [(⟨⟨ky, Gy, exy, ly⟩, sy, cy⟩ : Ev)]).length = Xo.length + 1 := by simp
                have e2 : evsL (Xo ++ [(⟨⟨ky, Gy, exy, ly⟩, sy, cy⟩ : Ev)]) = evsL Xo ++ (.int .i64 ky :: (Y ++ [.bool exy, .slice sy ly.length cy])) := by rw [evsL_snoc, HY.out]; rfl
                have h := HEND.out W g c q J (by rw [show (Xo ++ [(⟨⟨ky, Gy, exy, ly⟩, sy, cy⟩ : Ev)]).length * 20 = p by rw [hp, e1] <;> rfl, e2]; exact hH.sub (SubH.drop (SubH.keep SubH.nil)))
                rw [e1] at h
                exact h
        | false =>
          have f2 := Lib.hid (HF2.out rfl)
          by_cases hi0 : i < 0
          · have di : decide (i < 0) = true := decide_eq_true hi0
            have hX : X.length < 512 := by have := HNO.out; simp at this; have := this hi0; omega
            have d5 : decide ((X.length : Int) ≥ 512) = false := decide_eq_false (by omega)
            have d6 : decide ((512 : Int) ≤ (X.length : Int)) = false := decide_eq_false (by omega)
            go_enter Try.func22, Try.ntmps22
            go_wp2_with (first | ((first | (refine iL tab_ok rfl ?_ rfl hH ?_; (focus first|exact wN rfl|exact rfl); refine ⟨_, _, rfl, rfl, ?_⟩) | (refine hBx rfl ?_ rfl hH ?_ ?_; (focus first|exact wN rfl|exact rfl); (focus (repeat (first | exact trivial | assumption | exact OkA.z (by kernel_rfl) (by kernel_rfl) | refine ⟨rfl, ?_⟩ | refine ⟨?_, ?_⟩)))) | ((with_reducible refine callH hH ?_); refine ⟨?_, ?_, ?_⟩; rotate_left; (focus (first | (exact f1 _ _ _) | (exact f2.out _ hH.below) | (exact f3.out _ hH.below))))); clear hH; (first | intro W g hH | intro W hH); ((try simp only [Act.put, pA, pB, pC]))))
            obtain ⟨g3, hg3⟩ : ∃ x, x = g := ⟨_, rfl⟩
            subst hg3
            ((with_reducible apply regK1 [] hH (SubH.refl) (by kernel_rfl)); (focus ((intro W hH); (refine hk_pures (fuel := 4) (pk 1 rfl (PickR.nil)) (by kernel_rfl) (by kernel_rfl) (fun _ _ _ _ _ h => h) ?_; (repeat (go_big_quiet_step (fail))); refine hk_nil ?_); (refine hk_loads (fuel := 3) (pk 2 rfl (PickR.nil)) (by kernel_rfl) (by kernel_rfl) (fun _ _ _ _ _ h => h) hH ?_ ?_; (focus (exact SubI.h)); intro hne; (repeat (first | (go_big_quiet_want; (first | (refine qiL tab_ok rfl rfl ?_; refine ⟨_, _, rfl, rfl, ?_⟩)); (try simp only [Act.put, pA, pB, pC]); go_big_quiet_on) | go_big_quiet_step (fail))); refine hk_nil ?_; clear hne); (refine hk_one (fuel := 2) 0 rfl (by kernel_rfl) ?_; go_wp2_with (first | ((refine hSl0 tab_ok rfl ?_ tabs_ok rfl rfl rfl hH ?_; (focus first|exact wN rfl|exact rfl); clear hH; intro W g hH; (try simp only [Act.put, pA, pB, pC])))); refine hkQ_normal hH ?_ ?_; (focus (exact SubI.h)); (try simp only [Act.put, pA, pB, pC])); (refine hk_pures (fuel := 0) (pk 3 rfl (pk 4 rfl (PickR.nil))) (by kernel_rfl) (by kernel_rfl) (fun _ _ _ _ _ h => h) ?_; (repeat (go_big_quiet_step (fail))); refine hk_nil ?_); exact hk_end (by kernel_rfl) ⟨g, rfl, hH⟩)); ((try clear hH); intro W g hH))
            go_wp2_with (fail)
            skip
            go_loopw [6, 7, 8] (fun s6 s7 s8 wr => ∃ (k : Nat) (d : Bool) (Xo : List Ev) (g cc q : Nat) (J : List Value), s8 = .int .i64 (k : Int) ∧ s7 = .bool d ∧ k ≤ X.length ∧ Xo.length ≤ 2 * k ∧ s6 = .slice (some ⟨g, 0, none⟩) Xo.length cc ∧ Hid (goR (fun a : Ev => insR ⟨ky, Gy, exy, ly⟩ a.e) (⟨⟨ky, Gy, exy, ly⟩, sy, cy⟩ : Ev) i k d (X.drop k) Xo = res) ∧ Grow 20 Xo.length cc (Xo.length * 20) q ∧ OkA J q ∧ Hp w.heap.size w wr [(g, 30, true, [.many (evsL Xo) (Xo.length * 20), .many J q]), (g3, 37, true, [.one (.int .i64 ky), .many Y 17, .one (.bool exy), .one (.slice sy ly.length cy), .one (.bool false)])]) (fun _ _ s8 _ => X.length - (intOf s8).toNat)
            case atStart => exact ⟨0, false, [], _, 0, 0, [], rfl, rfl, by omega, by simp, rfl, by rw [List.drop_zero]; exact HRES, ⟨rfl, rfl, Nat.le_refl _, by simp [maxLen]⟩, ⟨rfl, by simp⟩, hH⟩
            case round =>
              clear hH HRES
              obtain ⟨k, d, Xo, g, cc, q, J, rfl, rfl, hk, hXo, rfl, HR, hG, oJ, hH⟩ := hrel
              by_cases hkl : k < X.length
              · have dk : decide ((k : Int) < (X.length : Int)) = true := decide_eq_true (by omega)
                have hX2 : Xo.length ≤ 2000 := by omega
                have hr := HR.out
                rw [List.drop_eq_getElem_cons hkl] at hr
                unfold goR at hr
                obtain ⟨qa, ha, fA⟩ := HC.out k hkl
                subst ha
                have fC := fun w => FC.out X[k] w
                clear HR HC FC f1 f3 HF2 HNO HPL HEND
                generalize X[k] = a at *
                obtain ⟨⟨ka, Ga, exa, la⟩, pa, ca⟩ := a
                unfold evS enS at fA
                simp only at fA fC hr
                have oA := adL_ok Ga
                obtain ⟨YA, hYA⟩ : ∃ Y, Y = adL Ga := ⟨_, rfl⟩
                rw [← hYA] at oA fA fC
                have HYA := Lib.hid hYA
                clear hYA
                obtain ⟨z, hz⟩ : ∃ z, cmpE ⟨ky, Gy, exy, ly⟩ ⟨ka, Ga, exa, la⟩ = z := ⟨_, rfl⟩
                rw [hz] at fC
                have hin : insR ⟨ky, Gy, exy, ly⟩ ⟨ka, Ga, exa, la⟩ = decide (z ≠ 1) := by unfold insR; rw [hz]
                rw [hin] at hr
                clear hz hin
                cases d with
                | true =>
                  by_cases hki : (k : Int) = i
                  · have HR := Lib.hid (show goR (fun a : Ev => insR ⟨ky, Gy, exy, ly⟩ a.e) (⟨⟨ky, Gy, exy, ly⟩, sy, cy⟩ : Ev) i (k + 1) true (X.drop (k + 1)) (Xo) = res by rw [if_pos hki] at hr; simpa using hr)
                    have dki : ((k : Int) != i) = false := by simpa using hki
                    clear hr
                    clear hki
                    go_wp2_with (fail)
                    ((with_reducible refine regKN [] hH (SubH.refl) (by kernel_rfl) ?_); (clear hH; intro W hH); (refine hk_pures (fuel := 5) (pk 0 rfl (pk 1 rfl (pk 2 rfl (pk 3 rfl (pk 5 rfl (pk 6 rfl (pk 7 rfl (PickR.nil)))))))) (by kernel_rfl) (by kernel_rfl) (fun _ _ _ _ _ h => h) ?_; (repeat (go_big_quiet_step (fail))); refine hk_nil ?_); (refine hk_loads (fuel := 3) (pk 4 rfl (pk 8 rfl (PickR.nil))) (by kernel_rfl) (by kernel_rfl) (fun _ _ _ _ _ h => h) hH ?_ ?_; (focus (exact SubI.h)); intro hne; (repeat (go_big_quiet_step (fail))); refine hk_nil ?_; clear hne); (refine hk_one (fuel := 2) 9 rfl (by kernel_rfl) ?_; go_wp2_with (fail); refine hkQ_normal hH ?_ ?_; (focus (exact SubI.h)); (try simp only [Act.put, pA, pB, pC])); (refine hk_pures (fuel := 0) (pk 10 rfl (pk 11 rfl (PickR.nil))) (by kernel_rfl) (by kernel_rfl) (fun _ _ _ _ _ h => h) ?_; (repeat (go_big_quiet_step (fail))); refine hk_nil ?_); refine hk_endN (by kernel_rfl) ?_)
                    go_wp2_with (fail)
                    exact ⟨⟨k + 1, true, Xo, g, cc, q, J, by simp, rfl, by omega, by omega, rfl, HR, hG, oJ, hH⟩, by simp [intOf]; omega⟩
                  · have HR := Lib.hid (show goR (fun a : Ev => insR ⟨ky, Gy, exy, ly⟩ a.e) (⟨⟨ky, Gy, exy, ly⟩, sy, cy⟩ : Ev) i (k + 1) true (X.drop (k + 1)) (Xo ++ [(⟨⟨ka, Ga, exa, la⟩, pa, ca⟩ : Ev)]) = res by rw [if_neg hki] at hr; simpa using hr)
                    have dki : ((k : Int) != i) = true := by simpa using hki
                    clear hr
                    go_wp2_with (fail)
                    ((with_reducible refine regKN [] hH (SubH.refl) (by kernel_rfl) ?_); (clear hH; intro W hH); (refine hk_pures (fuel := 5) (pk 0 rfl (pk 1 rfl (pk 2 rfl (pk 3 rfl (pk 5 rfl (pk 6 rfl (pk 7 rfl (PickR.nil)))))))) (by kernel_rfl) (by kernel_rfl) (fun _ _ _ _ _ h => h) ?_; (repeat (go_big_quiet_step (fail))); refine hk_nil ?_); (refine hk_loads (fuel := 3) (pk 4 rfl (pk 8 rfl (PickR.nil))) (by kernel_rfl) (by kernel_rfl) (fun _ _ _ _ _ h => h) hH ?_ ?_; (focus (exact SubI.h)); intro hne; (repeat (go_big_quiet_step (fail))); refine hk_nil ?_; clear hne); (refine hk_one (fuel := 2) 9 rfl (by kernel_rfl) ?_; go_wp2_with (fail); refine hkQ_normal hH ?_ ?_; (focus (exact SubI.h)); (try simp only [Act.put, pA, pB, pC])); (refine hk_pures (fuel := 0) (pk 10 rfl (pk 11 rfl (PickR.nil))) (by kernel_rfl) (by kernel_rfl) (fun _ _ _ _ _ h => h) ?_; (repeat (go_big_quiet_step (fail))); refine hk_nil ?_); refine hk_endN (by kernel_rfl) ?_)
                    go_wp2_with (first | ((refine gL rfl ?_; refine hLoR tab_ok rfl ?_ rfl hH rfl rfl ?_; (focus first|exact wN rfl|exact rfl); refine ⟨_, fA, ⟨rfl, oA, rfl, rfl, trivial⟩, rfl, ?_⟩; (clear hH; (first | intro W g hH | intro W hH); (try simp only [Act.put, pA, pB, pC])))) | ((refine hSl tab_ok rfl ?_ rfl tabs_ok rfl rfl rfl rfl rfl hH ?_; (focus first|exact wN rfl|exact rfl); refine ⟨?_, ?_, ?_⟩; rotate_left; (focus (repeat (first | exact BR.nil | refine BR.one rfl rfl rfl ?_ | (refine BR.row rfl rfl rfl rfl ?_ ?_; (focus (repeat (first | exact trivial | assumption | exact OkA.z (by kernel_rfl) (by kernel_rfl) | refine ⟨rfl, ?_⟩ | refine ⟨?_, ?_⟩))))))); clear hH; intro W g hH; (try simp only [Act.put, pA, pB, pC]))) | (((first | (refine hApp 1 0 tab_ok tabs_ok rfl rfl rfl rfl rfl rfl rfl hH rfl rfl rfl rfl ?_; refine ⟨?_, ?_, ?_⟩; (focus assumption); (focus (first | omega | (simp; omega))))); clear hH; intro W g c p q J hG hL hJ hH; (try simp only [putH, fls, List.append_nil] at hH hL); (try simp only [Act.put, pA, pB, pC]))))
                    have hp := hG.hp
                    have hq := hG.hq
                    have hle := hG.le
                    have hmo := hG.most
                    clear hG
                    have e1 : (Xo ++ [(⟨⟨ka, Ga, exa, la⟩, pa, ca⟩ : Ev)]).length = Xo.length + 1 := by simp
                    have e2 : evsL (Xo ++ [(⟨⟨ka, Ga, exa, la⟩, pa, ca⟩ : Ev)]) = evsL Xo ++ (.int .i64 ka :: (YA ++ [.bool exa, .slice pa la.length ca])) := by rw [evsL_snoc, HYA.out]; rfl
                    refine ⟨⟨k + 1, true, (Xo ++ [(⟨⟨ka, Ga, exa, la⟩, pa, ca⟩ : Ev)]), g, c, q, J, by simp, rfl, by omega, by rw [e1]; omega, by rw [e1] <;> simp, HR, by rw [e1]; exact ⟨rfl, by rw [← hq, hp] <;> rfl, hle, hmo⟩, hJ, ?_⟩, by simp [intOf]; omega⟩
                    rw [show (Xo ++ [(⟨⟨ka, Ga, exa, la⟩, pa, ca⟩ : Ev)]).length * 20 = p by rw [hp, e1] <;> rfl, e2]
                    exact hH.sub (SubH.drop (SubH.refl))
                | false =>
                  by_cases hz1 : z = 1
                  · subst hz1
                    by_cases hki : (k : Int) = i
                    · have HR := Lib.hid (show goR (fun a : Ev => insR ⟨ky, Gy, exy, ly⟩ a.e) (⟨⟨ky, Gy, exy, ly⟩, sy, cy⟩ : Ev) i (k + 1) false (X.drop (k + 1)) (Xo) = res by rw [if_pos hki] at hr; simpa using hr)
                      have dki : ((k : Int) != i) = false := by simpa using hki
                      clear hr
                      clear hki
                      go_wp2_with (fail)
                      ((with_reducible refine regKN [] hH (SubH.refl) (by kernel_rfl) ?_); (clear hH; intro W hH); (refine hk_pures (fuel := 5) (pk 0 rfl (pk 1 rfl (pk 2 rfl (pk 3 rfl (pk 5 rfl (pk 6 rfl (pk 7 rfl (PickR.nil)))))))) (by kernel_rfl) (by kernel_rfl) (fun _ _ _ _ _ h => h) ?_; (repeat (go_big_quiet_step (fail))); refine hk_nil ?_); (refine hk_loads (fuel := 3) (pk 4 rfl (pk 8 rfl (PickR.nil))) (by kernel_rfl) (by kernel_rfl) (fun _ _ _ _ _ h => h) hH ?_ ?_; (focus (exact SubI.h)); intro hne; (repeat (first | (go_big_quiet_want; (first | (refine qiL tab_ok rfl rfl ?_; refine ⟨_, _, rfl, rfl, ?_⟩) | ((first | (refine qLoR tab_ok rfl rfl rfl rfl ?_; refine ⟨_, fA, ⟨rfl, oA, rfl, rfl, trivial⟩, rfl, ?_⟩)))); (try simp only [Act.put, pA, pB, pC]); go_big_quiet_on) | go_big_quiet_step (fail))); refine hk_nil ?_; clear hne); (refine hk_one (fuel := 2) 9 rfl (by kernel_rfl) ?_; go_wp2_with (first | ((first | ((with_reducible refine callH hH ?_); refine ⟨?_, ?_, ?_⟩; rotate_left; (focus (first | (with_reducible exact fC _))))); clear hH; (first | intro W g hH | intro W hH); ((try simp only [Act.put, pA, pB, pC])))); refine hkQ_normal hH ?_ ?_; (focus (exact SubI.h)); (try simp only [Act.put, pA, pB, pC])); (refine hk_pures (fuel := 0) (pk 10 rfl (pk 11 rfl (PickR.nil))) (by kernel_rfl) (by kernel_rfl) (fun _ _ _ _ _ h => h) ?_; (repeat (go_big_quiet_step (fail))); refine hk_nil ?_); refine hk_endN (by kernel_rfl) ?_)
                      go_wp2_with (fail)
                      exact ⟨⟨k + 1, false, Xo, g, cc, q, J, by simp, rfl, by omega, by omega, rfl, HR, hG, oJ, hH⟩, by simp [intOf]; omega⟩
                    · have HR := Lib.hid (show goR (fun a : Ev => insR ⟨ky, Gy, exy, ly⟩ a.e) (⟨⟨ky, Gy, exy, ly⟩, sy, cy⟩ : Ev) i (k + 1) false (X.drop (k + 1)) (Xo ++ [(⟨⟨ka, Ga, exa, la⟩, pa, ca⟩ : Ev)]) = res by rw [if_neg hki] at hr; simpa using hr)
                      have dki : ((k : Int) != i) = true := by simpa using hki
                      clear hr
                      go_wp2_with (fail)
                      ((with_reducible refine regKN [] hH (SubH.refl) (by kernel_rfl) ?_); (clear hH; intro W hH); (refine hk_pures (fuel := 5) (pk 0 rfl (pk 1 rfl (pk 2 rfl (pk 3 rfl (pk 5 rfl (pk 6 rfl (pk 7 rfl (PickR.nil)))))))) (by kernel_rfl) (by kernel_rfl) (fun _ _ _ _ _ h => h) ?_; (repeat (go_big_quiet_step (fail))); refine hk_nil ?_); (refine hk_loads (fuel := 3) (pk 4 rfl (pk 8 rfl (PickR.nil))) (by kernel_rfl) (by kernel_rfl) (fun _ _ _ _ _ h => h) hH ?_ ?_; (focus (exact SubI.h)); intro hne; (repeat (first | (go_big_quiet_want; (first | (refine qiL tab_ok rfl rfl ?_; refine ⟨_, _, rfl, rfl, ?_⟩) | ((first | (refine qLoR tab_ok rfl rfl rfl rfl ?_; refine ⟨_, fA, ⟨rfl, oA, rfl, rfl, trivial⟩, rfl, ?_⟩)))); (try simp only [Act.put, pA, pB, pC]); go_big_quiet_on) | go_big_quiet_step (fail))); refine hk_nil ?_; clear hne); (refine hk_one (fuel := 2) 9 rfl (by kernel_rfl) ?_; go_wp2_with (first | ((first | ((with_reducible refine callH hH ?_); refine ⟨?_, ?_, ?_⟩; rotate_left; (focus (first | (with_reducible exact fC _))))); clear hH; (first | intro W g hH | intro W hH); ((try simp only [Act.put, pA, pB, pC])))); refine hkQ_normal hH ?_ ?_; (focus (exact SubI.h)); (try simp only [Act.put, pA, pB, pC])); (refine hk_pures (fuel := 0) (pk 10 rfl (pk 11 rfl (PickR.nil))) (by kernel_rfl) (by kernel_rfl) (fun _ _ _ _ _ h => h) ?_; (repeat (go_big_quiet_step (fail))); refine hk_nil ?_); refine hk_endN (by kernel_rfl) ?_)
                      go_wp2_with (first | ((refine gL rfl ?_; refine hLoR tab_ok rfl ?_ rfl hH rfl rfl ?_; (focus first|exact wN rfl|exact rfl); refine ⟨_, fA, ⟨rfl, oA, rfl, rfl, trivial⟩, rfl, ?_⟩; (clear hH; (first | intro W g hH | intro W hH); (try simp only [Act.put, pA, pB, pC])))) | ((refine hSl tab_ok rfl ?_ rfl tabs_ok rfl rfl rfl rfl rfl hH ?_; (focus first|exact wN rfl|exact rfl); refine ⟨?_, ?_, ?_⟩; rotate_left; (focus (repeat (first | exact BR.nil | refine BR.one rfl rfl rfl ?_ | (refine BR.row rfl rfl rfl rfl ?_ ?_; (focus (repeat (first | exact trivial | assumption | exact OkA.z (by kernel_rfl) (by kernel_rfl) | refine ⟨rfl, ?_⟩ | refine ⟨?_, ?_⟩))))))); clear hH; intro W g hH; (try simp only [Act.put, pA, pB, pC]))) | (((first | (refine hApp 1 0 tab_ok tabs_ok rfl rfl rfl rfl rfl rfl rfl hH rfl rfl rfl rfl ?_; refine ⟨?_, ?_, ?_⟩; (focus assumption); (focus (first | omega | (simp; omega))))); clear hH; intro W g c p q J hG hL hJ hH; (try simp only [putH, fls, List.append_nil] at hH hL); (try simp only [Act.put, pA, pB, pC]))))
                      have hp := hG.hp
                      have hq := hG.hq
                      have hle := hG.le
                      have hmo := hG.most
                      clear hG
                      have e1 : (Xo ++ [(⟨⟨ka, Ga, exa, la⟩, pa, ca⟩ : Ev)]).length = Xo.length + 1 := by simp
                      have e2 : evsL (Xo ++ [(⟨⟨ka, Ga, exa, la⟩, pa, ca⟩ : Ev)]) = evsL Xo ++ (.int .i64 ka :: (YA ++ [.bool exa, .slice pa la.length ca])) := by rw [evsL_snoc, HYA.out]; rfl
                      refine ⟨⟨k + 1, false, (Xo ++ [(⟨⟨ka, Ga, exa, la⟩, pa, ca⟩ : Ev)]), g, c, q, J, by simp, rfl, by omega, by rw [e1]; omega, by rw [e1] <;> simp, HR, by rw [e1]; exact ⟨rfl, by rw [← hq, hp] <;> rfl, hle, hmo⟩, hJ, ?_⟩, by simp [intOf]; omega⟩
                      rw [show (Xo ++ [(⟨⟨ka, Ga, exa, la⟩, pa, ca⟩ : Ev)]).length * 20 = p by rw [hp, e1] <;> rfl, e2]
                      exact hH.sub (SubH.drop (SubH.refl))
                  · have dz : (z != 1) = true := by simpa using hz1
                    have dz2 : decide (z ≠ 1) = true := decide_eq_true hz1
                    rw [dz2] at hr
                    clear dz2
                    by_cases hki : (k : Int) = i
                    · have HR := Lib.hid (show goR (fun a : Ev => insR ⟨ky, Gy, exy, ly⟩ a.e) (⟨⟨ky, Gy, exy, ly⟩, sy, cy⟩ : Ev) i (k + 1) true (X.drop (k + 1)) (Xo ++ [(⟨⟨ky, Gy, exy, ly⟩, sy, cy⟩ : Ev)]) = res by rw [if_pos hki] at hr; simpa using hr)
                      have dki : ((k : Int) != i) = false := by simpa using hki
                      clear hr hz1
                      clear hki
                      go_wp2_with (fail)
                      ((with_reducible refine regKN [] hH (SubH.refl) (by kernel_rfl) ?_); (clear hH; intro W hH); (refine hk_pures (fuel := 5) (pk 0 rfl (pk 1 rfl (pk 2 rfl (pk 3 rfl (pk 5 rfl (pk 6 rfl (pk 7 rfl (PickR.nil)))))))) (by kernel_rfl) (by kernel_rfl) (fun _ _ _ _ _ h => h) ?_; (repeat (go_big_quiet_step (fail))); refine hk_nil ?_); (refine hk_loads (fuel := 3) (pk 4 rfl (pk 8 rfl (PickR.nil))) (by kernel_rfl) (by kernel_rfl) (fun _ _ _ _ _ h => h) hH ?_ ?_; (focus (exact SubI.h)); intro hne; (repeat (first | (go_big_quiet_want; (first | (refine qiL tab_ok rfl rfl ?_; refine ⟨_, _, rfl, rfl, ?_⟩) | ((first | (refine qLoR tab_ok rfl rfl rfl rfl ?_; refine ⟨_, fA, ⟨rfl, oA, rfl, rfl, trivial⟩, rfl, ?_⟩)))); (try simp only [Act.put, pA, pB, pC]); go_big_quiet_on) | go_big_quiet_step (fail))); refine hk_nil ?_; clear hne); (refine hk_one (fuel := 2) 9 rfl (by kernel_rfl) ?_; go_wp2_with (first | ((first | ((with_reducible refine callH hH ?_); refine ⟨?_, ?_, ?_⟩; rotate_left; (focus (first | (with_reducible exact fC _))))); clear hH; (first | intro W g hH | intro W hH); ((try simp only [Act.put, pA, pB, pC])))); refine hkQ_normal hH ?_ ?_; (focus (exact SubI.h)); (try simp only [Act.put, pA, pB, pC])); (refine hk_pures (fuel := 0) (pk 10 rfl (pk 11 rfl (PickR.nil))) (by kernel_rfl) (by kernel_rfl) (fun _ _ _ _ _ h => h) ?_; (repeat (go_big_quiet_step (fail))); refine hk_nil ?_); refine hk_endN (by kernel_rfl) ?_)
                      go_wp2_with (first | ((refine hSl tab_ok rfl ?_ rfl tabs_ok rfl rfl rfl rfl rfl hH ?_; (focus first|exact wN rfl|exact rfl); refine ⟨?_, ?_, ?_⟩; rotate_left; (focus (repeat (first | exact BR.nil | refine BR.one rfl rfl rfl ?_ | (refine BR.row rfl rfl rfl rfl ?_ ?_; (focus (repeat (first | exact trivial | assumption | exact OkA.z (by kernel_rfl) (by kernel_rfl) | refine ⟨rfl, ?_⟩ | refine ⟨?_, ?_⟩))))))); clear hH; intro W g hH; (try simp only [Act.put, pA, pB, pC]))) | (((first | (refine hApp 1 0 tab_ok tabs_ok rfl rfl rfl rfl rfl rfl rfl hH rfl rfl rfl rfl ?_; refine ⟨?_, ?_, ?_⟩; (focus assumption); (focus (first | omega | (simp; omega))))); clear hH; intro W g c p q J hG hL hJ hH; (try simp only [putH, fls, List.append_nil] at hH hL); (try simp only [Act.put, pA, pB, pC]))) | ((first | (refine iL tab_ok rfl ?_ rfl hH ?_; (focus first|exact wN rfl|exact rfl); refine ⟨_, _, rfl, rfl, ?_⟩)); clear hH; (first | intro W g hH | intro W hH); ((try simp only [Act.put, pA, pB, pC]))))
                      have hp := hG.hp
                      have hq := hG.hq
                      have hle := hG.le
                      have hmo := hG.most
                      clear hG
                      have e1 : (Xo ++ [(⟨⟨ky, Gy, exy, ly⟩, sy, cy⟩ : Ev)]).length = Xo.length + 1 := by simp
                      have e2 : evsL (Xo ++ [(⟨⟨ky, Gy, exy, ly⟩, sy, cy⟩ : Ev)]) = evsL Xo ++ (.int .i64 ky :: (Y ++ [.bool exy, .slice sy ly.length cy])) := by rw [evsL_snoc, HY.out]; rfl
                      refine ⟨⟨k + 1, true, (Xo ++ [(⟨⟨ky, Gy, exy, ly⟩, sy, cy⟩ : Ev)]), g, c, q, J, by simp, rfl, by omega, by rw [e1]; omega, by rw [e1] <;> simp, HR, by rw [e1]; exact ⟨rfl, by rw [← hq, hp] <;> rfl, hle, hmo⟩, hJ, ?_⟩, by simp [intOf]; omega⟩
                      rw [show (Xo ++ [(⟨⟨ky, Gy, exy, ly⟩, sy, cy⟩ : Ev)]).length * 20 = p by rw [hp, e1] <;> rfl, e2]
                      exact hH.sub (SubH.drop (SubH.refl))
                    · have HR := Lib.hid (show goR (fun a : Ev => insR ⟨ky, Gy, exy, ly⟩ a.e) (⟨⟨ky, Gy, exy, ly⟩, sy, cy⟩ : Ev) i (k + 1) true (X.drop (k + 1)) (Xo ++ [(⟨⟨ky, Gy, exy, ly⟩, sy, cy⟩ : Ev)] ++ [(⟨⟨ka, Ga, exa, la⟩, pa, ca⟩ : Ev)]) = res by rw [if_neg hki] at hr; simpa using hr)
                      have dki : ((k : Int) != i) = true := by simpa using hki
                      clear hr hz1
                      go_wp2_with (fail)
                      ((with_reducible refine regKN [] hH (SubH.refl) (by kernel_rfl) ?_); (clear hH; intro W hH); (refine hk_pures (fuel := 5) (pk 0 rfl (pk 1 rfl (pk 2 rfl (pk 3 rfl (pk 5 rfl (pk 6 rfl (pk 7 rfl (PickR.nil)))))))) (by kernel_rfl) (by kernel_rfl) (fun _ _ _ _ _ h => h) ?_; (repeat (go_big_quiet_step (fail))); refine hk_nil ?_); (refine hk_loads (fuel := 3) (pk 4 rfl (pk 8 rfl (PickR.nil))) (by kernel_rfl) (by kernel_rfl) (fun _ _ _ _ _ h => h) hH ?_ ?_; (focus (exact SubI.h)); intro hne; (repeat (first | (go_big_quiet_want; (first | (refine qiL tab_ok rfl rfl ?_; refine ⟨_, _, rfl, rfl, ?_⟩) | ((first | (refine qLoR tab_ok rfl rfl rfl rfl ?_; refine ⟨_, fA, ⟨rfl, oA, rfl, rfl, trivial⟩, rfl, ?_⟩)))); (try simp only [Act.put, pA, pB, pC]); go_big_quiet_on) | go_big_quiet_step (fail))); refine hk_nil ?_; clear hne); (refine hk_one (fuel := 2) 9 rfl (by kernel_rfl) ?_; go_wp2_with (first | ((first | ((with_reducible refine callH hH ?_); refine ⟨?_, ?_, ?_⟩; rotate_left; (focus (first | (with_reducible exact fC _))))); clear hH; (first | intro W g hH | intro W hH); ((try simp only [Act.put, pA, pB, pC])))); refine hkQ_normal hH ?_ ?_; (focus (exact SubI.h)); (try simp only [Act.put, pA, pB, pC])); (refine hk_pures (fuel := 0) (pk 10 rfl (pk 11 rfl (PickR.nil))) (by kernel_rfl) (by kernel_rfl) (fun _ _ _ _ _ h => h) ?_; (repeat (go_big_quiet_step (fail))); refine hk_nil ?_); refine hk_endN (by kernel_rfl) ?_)
                      go_wp2_with (first | ((refine gL rfl ?_; refine hLoR tab_ok rfl ?_ rfl hH rfl rfl ?_; (focus first|exact wN rfl|exact rfl); refine ⟨_, fA, ⟨rfl, oA, rfl, rfl, trivial⟩, rfl, ?_⟩; (clear hH; (first | intro W g hH | intro W hH); (try simp only [Act.put, pA, pB, pC])))) | ((refine hSl tab_ok rfl ?_ rfl tabs_ok rfl rfl rfl rfl rfl hH ?_; (focus first|exact wN rfl|exact rfl); refine ⟨?_, ?_, ?_⟩; rotate_left; (focus (repeat (first | exact BR.nil | refine BR.one rfl rfl rfl ?_ | (refine BR.row rfl rfl rfl rfl ?_ ?_; (focus (repeat (first | exact trivial | assumption | exact OkA.z (by kernel_rfl) (by kernel_rfl) | refine ⟨rfl, ?_⟩ | refine ⟨?_, ?_⟩))))))); clear hH; intro W g hH; (try simp only [Act.put, pA, pB, pC]))) | (((first | (refine hApp 1 0 tab_ok tabs_ok rfl rfl rfl rfl rfl rfl rfl hH rfl rfl rfl rfl ?_; refine ⟨?_, ?_, ?_⟩; (focus assumption); (focus (first | omega | (simp; omega))))); clear hH; intro W g c p q J hG hL hJ hH; (try simp only [putH, fls, List.append_nil] at hH hL); (try simp only [Act.put, pA, pB, pC]))) | (((first | (refine hApp 2 0 tab_ok tabs_ok rfl rfl rfl rfl rfl rfl rfl hH rfl rfl rfl rfl ?_; refine ⟨?_, ?_, ?_⟩; (focus assumption); (focus (first | omega | (simp; omega))))); clear hH; intro W g c p q J hG hL hJ hH; (try simp only [putH, fls, List.append_nil] at hH hL); (try simp only [Act.put, pA, pB, pC]))) | ((first | (refine iL tab_ok rfl ?_ rfl hH ?_; (focus first|exact wN rfl|exact rfl); refine ⟨_, _, rfl, rfl, ?_⟩)); clear hH; (first | intro W g hH | intro W hH); ((try simp only [Act.put, pA, pB, pC]))))
                      have hp := hG.hp
                      have hq := hG.hq
                      have hle := hG.le
                      have hmo := hG.most
                      clear hG
                      have e1 : (Xo ++ [(⟨⟨ky, Gy, exy, ly⟩, sy, cy⟩ : Ev)] ++ [(⟨⟨ka, Ga, exa, la⟩, pa, ca⟩ : Ev)]).length = Xo.length + 1 + 1 := by simp
                      have e2 : evsL (Xo ++ [(⟨⟨ky, Gy, exy, ly⟩, sy, cy⟩ : Ev)] ++ [(⟨⟨ka, Ga, exa, la⟩, pa, ca⟩ : Ev)]) = evsL Xo ++ (.int .i64 ky :: (Y ++ [.bool exy, .slice sy ly.length cy])) ++ (.int .i64 ka :: (YA ++ [.bool exa, .slice pa la.length ca])) := by rw [evsL_snoc, evsL_snoc, HY.out, HYA.out]; rfl
                      refine ⟨⟨k + 1, true, (Xo ++ [(⟨⟨ky, Gy, exy, ly⟩, sy, cy⟩ : Ev)] ++ [(⟨⟨ka, Ga, exa, la⟩, pa, ca⟩ : Ev)]), g, c, q, J, by simp, rfl, by omega, by rw [e1]; omega, by rw [e1] <;> simp, HR, by rw [e1]; exact ⟨rfl, by rw [← hq, hp] <;> rfl, hle, hmo⟩, hJ, ?_⟩, by simp [intOf]; omega⟩
                      rw [show (Xo ++ [(⟨⟨ky, Gy, exy, ly⟩, sy, cy⟩ : Ev)] ++ [(⟨⟨ka, Ga, exa, la⟩, pa, ca⟩ : Ev)]).length * 20 = p by rw [hp, e1] <;> rfl, e2]
                      exact hH.sub (SubH.drop (SubH.drop (SubH.refl)))
              · have dk : decide ((k : Int) < (X.length : Int)) = false := decide_eq_false (by omega)
                have hX2 : Xo.length ≤ 2000 := by omega
                have hr := HR.out
                rw [List.drop_of_length_le (by omega)] at hr
                unfold goR at hr
                have hkl2 : X.length ≤ k := by omega
                clear HR HC FC f1 f3 HF2 HNO HPL
                cases d with
                | true =>
                  have hfin : endR (⟨⟨ky, Gy, exy, ly⟩, sy, cy⟩ : Ev) res = Xo := by rw [← hr]; rfl
                  rw [hfin] at HEND
                  clear hr hfin
                  go_wp2_with (fail)
                  go_ret
                  exact HEND.out _ _ _ _ _ (hH.sub (SubH.keep SubH.nil))
                | false =>
                  have hfin : endR (⟨⟨ky, Gy, exy, ly⟩, sy, cy⟩ : Ev) res = Xo ++ [(⟨⟨ky, Gy, exy, ly⟩, sy, cy⟩ : Ev)] := by rw [← hr]; rfl
                  rw [hfin] at HEND
                  clear hr hfin
                  go_wp2_with (first | ((refine hSl tab_ok rfl ?_ rfl tabs_ok rfl rfl rfl rfl rfl hH ?_; (focus first|exact wN rfl|exact rfl); refine ⟨?_, ?_, ?_⟩; rotate_left; (focus (repeat (first | exact BR.nil | refine BR.one rfl rfl rfl ?_ | (refine BR.row rfl rfl rfl rfl ?_ ?_; (focus (repeat (first | exact trivial | assumption | exact OkA.z (by kernel_rfl) (by kernel_rfl) | refine ⟨rfl, ?_⟩ | refine ⟨?_, ?_⟩))))))); clear hH; intro W g hH; (try simp only [Act.put, pA, pB, pC]))) | (((first | (refine hApp 1 0 tab_ok tabs_ok rfl rfl rfl rfl rfl rfl rfl hH rfl rfl rfl rfl ?_; refine ⟨?_, ?_, ?_⟩; (focus assumption); (focus (first | omega | (simp; omega))))); clear hH; intro W g c p q J hG hL hJ hH; (try simp only [putH, fls, List.append_nil] at hH hL); (try simp only [Act.put, pA, pB, pC]))) | ((first | (refine iL tab_ok rfl ?_ rfl hH ?_; (focus first|exact wN rfl|exact rfl); refine ⟨_, _, rfl, rfl, ?_⟩)); clear hH; (first | intro W g hH | intro W hH); ((try simp only [Act.put, pA, pB, pC]))))
                  go_ret
                  have hp := hG.hp
                  clear hG
                  have e1 : (Xo ++ [(⟨⟨ky, Gy, exy, ly⟩, sy, cy⟩ : Ev)]).length = Xo.length + 1 := by simp
                  have e2 : evsL (Xo ++ [(⟨⟨ky, Gy, exy, ly⟩, sy, cy⟩ : Ev)]) = evsL Xo ++ (.int .i64 ky :: (Y ++ [.bool exy, .slice sy ly.length cy])) := by rw [evsL_snoc, HY.out]; rfl
                  have h := HEND.out W g c q J (by rw [show (Xo ++ [(⟨⟨ky, Gy, exy, ly⟩, sy, cy⟩ : Ev)]).length * 20 = p by rw [hp, e1] <;> rfl, e2]; exact hH.sub (SubH.drop (SubH.keep SubH.nil)))
                  rw [e1] at h
                  exact h
          · have di : decide (i < 0) = false := decide_eq_false (by omega)
            go_enter Try.func22, Try.ntmps22
            go_wp2_with (first | ((first | (refine iL tab_ok rfl ?_ rfl hH ?_; (focus first|exact wN rfl|exact rfl); refine ⟨_, _, rfl, rfl, ?_⟩) | (refine hBx rfl ?_ rfl hH ?_ ?_; (focus first|exact wN rfl|exact rfl); (focus (repeat (first | exact trivial | assumption | exact OkA.z (by kernel_rfl) (by kernel_rfl) | refine ⟨rfl, ?_⟩ | refine ⟨?_, ?_⟩)))) | ((with_reducible refine callH hH ?_); refine ⟨?_, ?_, ?_⟩; rotate_left; (focus (first | (exact f1 _ _ _) | (exact f2.out _ hH.below) | (exact f3.out _ hH.below))))); clear hH; (first | intro W g hH | intro W hH); ((try simp only [Act.put, pA, pB, pC]))))
            obtain ⟨g3, hg3⟩ : ∃ x, x = g := ⟨_, rfl⟩
            subst hg3
            ((with_reducible apply regK1 [] hH (SubH.refl) (by kernel_rfl)); (focus ((intro W hH); (refine hk_pures (fuel := 4) (pk 1 rfl (PickR.nil)) (by kernel_rfl) (by kernel_rfl) (fun _ _ _ _ _ h => h) ?_; (repeat (go_big_quiet_step (fail))); refine hk_nil ?_); (refine hk_loads (fuel := 3) (pk 2 rfl (PickR.nil)) (by kernel_rfl) (by kernel_rfl) (fun _ _ _ _ _ h => h) hH ?_ ?_; (focus (exact SubI.h)); intro hne; (repeat (first | (go_big_quiet_want; (first | (refine qiL tab_ok rfl rfl ?_; refine ⟨_, _, rfl, rfl, ?_⟩)); (try simp only [Act.put, pA, pB, pC]); go_big_quiet_on) | go_big_quiet_step (fail))); refine hk_nil ?_; clear hne); (refine hk_one (fuel := 2) 0 rfl (by kernel_rfl) ?_; go_wp2_with (first | ((refine hSl0 tab_ok rfl ?_ tabs_ok rfl rfl rfl hH ?_; (focus first|exact wN rfl|exact rfl); clear hH; intro W g hH; (try simp only [Act.put, pA, pB, pC])))); refine hkQ_normal hH ?_ ?_; (focus (exact SubI.h)); (try simp only [Act.put, pA, pB, pC])); (refine hk_pures (fuel := 0) (pk 3 rfl (pk 4 rfl (PickR.nil))) (by kernel_rfl) (by kernel_rfl) (fun _ _ _ _ _ h => h) ?_; (repeat (go_big_quiet_step (fail))); refine hk_nil ?_); exact hk_end (by kernel_rfl) ⟨g, rfl, hH⟩)); ((try clear hH); intro W g hH))
            go_wp2_with (fail)
            skip
            go_loopw [6, 7, 8] (fun s6 s7 s8 wr => ∃ (k : Nat) (d : Bool) (Xo : List Ev) (g cc q : Nat) (J : List Value), s8 = .int .i64 (k : Int) ∧ s7 = .bool d ∧ k ≤ X.length ∧ Xo.length ≤ 2 * k ∧ s6 = .slice (some ⟨g, 0, none⟩) Xo.length cc ∧ Hid (goR (fun a : Ev => insR ⟨ky, Gy, exy, ly⟩ a.e) (⟨⟨ky, Gy, exy, ly⟩, sy, cy⟩ : Ev) i k d (X.drop k) Xo = res) ∧ Grow 20 Xo.length cc (Xo.length * 20) q ∧ OkA J q ∧ Hp w.heap.size w wr [(g, 30, true, [.many (evsL Xo) (Xo.length * 20), .many J q]), (g3, 37, true, [.one (.int .i64 ky), .many Y 17, .one (.bool exy), .one (.slice sy ly.length cy), .one (.bool false)])]) (fun _ _ s8 _ => X.length - (intOf s8).toNat)
            case atStart => exact ⟨0, false, [], _, 0, 0, [], rfl, rfl, by omega, by simp, rfl, by rw [List.drop_zero]; exact HRES, ⟨rfl, rfl, Nat.le_refl _, by simp [maxLen]⟩, ⟨rfl, by simp⟩, hH⟩
            case round =>
              clear hH HRES
              obtain ⟨k, d, Xo, g, cc, q, J, rfl, rfl, hk, hXo, rfl, HR, hG, oJ, hH⟩ := hrel
              by_cases hkl : k < X.length
              · have dk : decide ((k : Int) < (X.length : Int)) = true := decide_eq_true (by omega)
                have hX2 : Xo.length ≤ 2000 := by omega
                have hr := HR.out
                rw [List.drop_eq_getElem_cons hkl] at hr
                unfold goR at hr
                obtain ⟨qa, ha, fA⟩ := HC.out k hkl
                subst ha
                have fC := fun w => FC.out X[k] w
                clear HR HC FC f1 f3 HF2 HNO HPL HEND
                generalize X[k] = a at *
                obtain ⟨⟨ka, Ga, exa, la⟩, pa, ca⟩ := a
                unfold evS enS at fA
                simp only at fA fC hr
                have oA := adL_ok Ga
                obtain ⟨YA, hYA⟩ : ∃ Y, Y = adL Ga := ⟨_, rfl⟩
                rw [← hYA] at oA fA fC
                have HYA := Lib.hid hYA
                clear hYA
                obtain ⟨z, hz⟩ : ∃ z, cmpE ⟨ky, Gy, exy, ly⟩ ⟨ka, Ga, exa, la⟩ = z := ⟨_, rfl⟩
                rw [hz] at fC
                have hin : insR ⟨ky, Gy, exy, ly⟩ ⟨ka, Ga, exa, la⟩ = decide (z ≠ 1) := by unfold insR; rw [hz]
                rw [hin] at hr
                clear hz hin
                cases d with
                | true =>
                  by_cases hki : (k : Int) = i
                  · have HR := Lib.hid (show goR (fun a : Ev => insR ⟨ky, Gy, exy, ly⟩ a.e) (⟨⟨ky, Gy, exy, ly⟩, sy, cy⟩ : Ev) i (k + 1) true (X.drop (k + 1)) (Xo) = res by rw [if_pos hki] at hr; simpa using hr)
                    have dki : ((k : Int) != i) = false := by simpa using hki
                    clear hr
                    clear hki
                    go_wp2_with (fail)
                    ((with_reducible refine regKN [] hH (SubH.refl) (by kernel_rfl) ?_); (clear hH; intro W hH); (refine hk_pures (fuel := 5) (pk 0 rfl (pk 1 rfl (pk 2 rfl (pk 3 rfl (pk 5 rfl (pk 6 rfl (pk 7 rfl (PickR.nil)))))))) (by kernel_rfl) (by kernel_rfl) (fun _ _ _ _ _ h => h) ?_; (repeat (go_big_quiet_step (fail))); refine hk_nil ?_); (refine hk_loads (fuel := 3) (pk 4 rfl (pk 8 rfl (PickR.nil))) (by kernel_rfl) (by kernel_rfl) (fun _ _ _ _ _ h => h) hH ?_ ?_; (focus (exact SubI.h)); intro hne; (repeat (go_big_quiet_step (fail))); refine hk_nil ?_; clear hne); (refine hk_one (fuel := 2) 9 rfl (by kernel_rfl) ?_; go_wp2_with (fail); refine hkQ_normal hH ?_ ?_; (focus (exact SubI.h)); (try simp only [Act.put, pA, pB, pC])); (refine hk_pures (fuel := 0) (pk 10 rfl (pk 11 rfl (PickR.nil))) (by kernel_rfl) (by kernel_rfl) (fun _ _ _ _ _ h => h) ?_; (repeat (go_big_quiet_step (fail))); refine hk_nil ?_); refine hk_endN (by kernel_rfl) ?_)
                    go_wp2_with (fail)
                    exact ⟨⟨k + 1, true, Xo, g, cc, q, J, by simp, rfl, by omega, by omega, rfl, HR, hG, oJ, hH⟩, by simp [intOf]; omega⟩
                  · have HR := Lib.hid (show goR (fun a : Ev => insR ⟨ky, Gy, exy, ly⟩ a.e) (⟨⟨ky, Gy, exy, ly⟩, sy, cy⟩ : Ev) i (k + 1) true (X.drop (k + 1)) (Xo ++ [(⟨⟨ka, Ga, exa, la⟩, pa, ca⟩ : Ev)]) = res by rw [if_neg hki] at hr; simpa using hr)
                    have dki : ((k : Int) != i) = true := by simpa using hki
                    clear hr
                    go_wp2_with (fail)
                    ((with_reducible refine regKN [] hH (SubH.refl) (by kernel_rfl) ?_); (clear hH; intro W hH); (refine hk_pures (fuel := 5) (pk 0 rfl (pk 1 rfl (pk 2 rfl (pk 3 rfl (pk 5 rfl (pk 6 rfl (pk 7 rfl (PickR.nil)))))))) (by kernel_rfl) (by kernel_rfl) (fun _ _ _ _ _ h => h) ?_; (repeat (go_big_quiet_step (fail))); refine hk_nil ?_); (refine hk_loads (fuel := 3) (pk 4 rfl (pk 8 rfl (PickR.nil))) (by kernel_rfl) (by kernel_rfl) (fun _ _ _ _ _ h => h) hH ?_ ?_; (focus (exact SubI.h)); intro hne; (repeat (go_big_quiet_step (fail))); refine hk_nil ?_; clear hne); (refine hk_one (fuel := 2) 9 rfl (by kernel_rfl) ?_; go_wp2_with (fail); refine hkQ_normal hH ?_ ?_; (focus (exact SubI.h)); (try simp only [Act.put, pA, pB, pC])); (refine hk_pures (fuel := 0) (pk 10 rfl (pk 11 rfl (PickR.nil))) (by kernel_rfl) (by kernel_rfl) (fun _ _ _ _ _ h => h) ?_; (repeat (go_big_quiet_step (fail))); refine hk_nil ?_); refine hk_endN (by kernel_rfl) ?_)
                    go_wp2_with (first | ((refine gL rfl ?_; refine hLoR tab_ok rfl ?_ rfl hH rfl rfl ?_; (focus first|exact wN rfl|exact rfl); refine ⟨_, fA, ⟨rfl, oA, rfl, rfl, trivial⟩, rfl, ?_⟩; (clear hH; (first | intro W g hH | intro W hH); (try simp only [Act.put, pA, pB, pC])))) | ((refine hSl tab_ok rfl ?_ rfl tabs_ok rfl rfl rfl rfl rfl hH ?_; (focus first|exact wN rfl|exact rfl); refine ⟨?_, ?_, ?_⟩; rotate_left; (focus (repeat (first | exact BR.nil | refine BR.one rfl rfl rfl ?_ | (refine BR.row rfl rfl rfl rfl ?_ ?_; (focus (repeat (first | exact trivial | assumption | exact OkA.z (by kernel_rfl) (by kernel_rfl) | refine ⟨rfl, ?_⟩ | refine ⟨?_, ?_⟩))))))); clear hH; intro W g hH; (try simp only [Act.put, pA, pB, pC]))) | (((first | (refine hApp 1 0 tab_ok tabs_ok rfl rfl rfl rfl rfl rfl rfl hH rfl rfl rfl rfl ?_; refine ⟨?_, ?_, ?_⟩; (focus assumption); (focus (first | omega | (simp; omega))))); clear hH; intro W g c p q J hG hL hJ hH; (try simp only [putH, fls, List.append_nil] at hH hL); (try simp only [Act.put, pA, pB, pC]))))
                    have hp := hG.hp
                    have hq := hG.hq
                    have hle := hG.le
                    have hmo := hG.most
                    clear hG
                    have e1 : (Xo ++ [(⟨⟨ka, Ga, exa, la⟩, pa, ca⟩ : Ev)]).length = Xo.length + 1 := by simp
                    have e2 : evsL (Xo ++ [(⟨⟨ka, Ga, exa, la⟩, pa, ca⟩ : Ev)]) = evsL Xo ++ (.int .i64 ka :: (YA ++ [.bool exa, .slice pa la.length ca])) := by rw [evsL_snoc, HYA.out]; rfl
                    refine ⟨⟨k + 1, true, (Xo ++ [(⟨⟨ka, Ga, exa, la⟩, pa, ca⟩ : Ev)]), g, c, q, J, by simp, rfl, by omega, by rw [e1]; omega, by rw [e1] <;> simp, HR, by rw [e1]; exact ⟨rfl, by rw [← hq, hp] <;> rfl, hle, hmo⟩, hJ, ?_⟩, by simp [intOf]; omega⟩
                    rw [show (Xo ++ [(⟨⟨ka, Ga, exa, la⟩, pa, ca⟩ : Ev)]).length * 20 = p by rw [hp, e1] <;> rfl, e2]
                    exact hH.sub (SubH.drop (SubH.refl))
                | false =>
                  by_cases hz1 : z = 1
                  · subst hz1
                    by_cases hki : (k : Int) = i
                    · have HR := Lib.hid (show goR (fun a : Ev => insR ⟨ky, Gy, exy, ly⟩ a.e) (⟨⟨ky, Gy, exy, ly⟩, sy, cy⟩ : Ev) i (k + 1) false (X.drop (k + 1)) (Xo) = res by rw [if_pos hki] at hr; simpa using hr)
                      have dki : ((k : Int) != i) = false := by simpa using hki
                      clear hr
                      clear hki
                      go_wp2_with (fail)
                      ((with_reducible refine regKN [] hH (SubH.refl) (by kernel_rfl) ?_); (clear hH; intro W hH); (refine hk_pures (fuel := 5) (pk 0 rfl (pk 1 rfl (pk 2 rfl (pk 3 rfl (pk 5 rfl (pk 6 rfl (pk 7 rfl (PickR.nil)))))))) (by kernel_rfl) (by kernel_rfl) (fun _ _ _ _ _ h => h) ?_; (repeat (go_big_quiet_step (fail))); refine hk_nil ?_); (refine hk_loads (fuel := 3) (pk 4 rfl (pk 8 rfl (PickR.nil))) (by kernel_rfl) (by kernel_rfl) (fun _ _ _ _ _ h => h) hH ?_ ?_; (focus (exact SubI.h)); intro hne; (repeat (first | (go_big_quiet_want; (first | (refine qiL tab_ok rfl rfl ?_; refine ⟨_, _, rfl, rfl, ?_⟩) | ((first | (refine qLoR tab_ok rfl rfl rfl rfl ?_; refine ⟨_, fA, ⟨rfl, oA, rfl, rfl, trivial⟩, rfl, ?_⟩)))); (try simp only [Act.put, pA, pB, pC]); go_big_quiet_on) | go_big_quiet_step (fail))); refine hk_nil ?_; clear hne); (refine hk_one (fuel := 2) 9 rfl (by kernel_rfl) ?_; go_wp2_with (first | ((first | ((with_reducible refine callH hH ?_); refine ⟨?_, ?_, ?_⟩; rotate_left; (focus (first | (with_reducible exact fC _))))); clear hH; (first | intro W g hH | intro W hH); ((try simp only [Act.put, pA, pB, pC])))); refine hkQ_normal hH ?_ ?_; (focus (exact SubI.h)); (try simp only [Act.put, pA, pB, pC])); (refine hk_pures (fuel := 0) (pk 10 rfl (pk 11 rfl (PickR.nil))) (by kernel_rfl) (by kernel_rfl) (fun _ _ _ _ _ h => h) ?_; (repeat (go_big_quiet_step (fail))); refine hk_nil ?_); refine hk_endN (by kernel_rfl) ?_)
                      go_wp2_with (fail)
                      exact ⟨⟨k + 1, false, Xo, g, cc, q, J, by simp, rfl, by omega, by omega, rfl, HR, hG, oJ, hH⟩, by simp [intOf]; omega⟩
                    · have HR := Lib.hid (show goR (fun a : Ev => insR ⟨ky, Gy, exy, ly⟩ a.e) (⟨⟨ky, Gy, exy, ly⟩, sy, cy⟩ : Ev) i (k + 1) false (X.drop (k + 1)) (Xo ++ [(⟨⟨ka, Ga, exa, la⟩, pa, ca⟩ : Ev)]) = res by rw [if_neg hki] at hr; simpa using hr)
                      have dki : ((k : Int) != i) = true := by simpa using hki
                      clear hr
                      go_wp2_with (fail)
                      ((with_reducible refine regKN [] hH (SubH.refl) (by kernel_rfl) ?_); (clear hH; intro W hH); (refine hk_pures (fuel := 5) (pk 0 rfl (pk 1 rfl (pk 2 rfl (pk 3 rfl (pk 5 rfl (pk 6 rfl (pk 7 rfl (PickR.nil)))))))) (by kernel_rfl) (by kernel_rfl) (fun _ _ _ _ _ h => h) ?_; (repeat (go_big_quiet_step (fail))); refine hk_nil ?_); (refine hk_loads (fuel := 3) (pk 4 rfl (pk 8 rfl (PickR.nil))) (by kernel_rfl) (by kernel_rfl) (fun _ _ _ _ _ h => h) hH ?_ ?_; (focus (exact SubI.h)); intro hne; (repeat (first | (go_big_quiet_want; (first | (refine qiL tab_ok rfl rfl ?_; refine ⟨_, _, rfl, rfl, ?_⟩) | ((first | (refine qLoR tab_ok rfl rfl rfl rfl ?_; refine ⟨_, fA, ⟨rfl, oA, rfl, rfl, trivial⟩, rfl, ?_⟩)))); (try simp only [Act.put, pA, pB, pC]); go_big_quiet_on) | go_big_quiet_step (fail))); refine hk_nil ?_; clear hne); (refine hk_one (fuel := 2) 9 rfl (by kernel_rfl) ?_; go_wp2_with (first | ((first | ((with_reducible refine callH hH ?_); refine ⟨?_, ?_, ?_⟩; rotate_left; (focus (first | (with_reducible exact fC _))))); clear hH; (first | intro W g hH | intro W hH); ((try simp only [Act.put, pA, pB, pC])))); refine hkQ_normal hH ?_ ?_; (focus (exact SubI.h)); (try simp only [Act.put, pA, pB, pC])); (refine hk_pures (fuel := 0) (pk 10 rfl (pk 11 rfl (PickR.nil))) (by kernel_rfl) (by kernel_rfl) (fun _ _ _ _ _ h => h) ?_; (repeat (go_big_quiet_step (fail))); refine hk_nil ?_); refine hk_endN (by kernel_rfl) ?_)
                      go_wp2_with (first | ((refine gL rfl ?_; refine hLoR tab_ok rfl ?_ rfl hH rfl rfl ?_; (focus first|exact wN rfl|exact rfl); refine ⟨_, fA, ⟨rfl, oA, rfl, rfl, trivial⟩, rfl, ?_⟩; (clear hH; (first | intro W g hH | intro W hH); (try simp only [Act.put, pA, pB, pC])))) | ((refine hSl tab_ok rfl ?_ rfl tabs_ok rfl rfl rfl rfl rfl hH ?_; (focus first|exact wN rfl|exact rfl); refine ⟨?_, ?_, ?_⟩; rotate_left; (focus (repeat (first | exact BR.nil | refine BR.one rfl rfl rfl ?_ | (refine BR.row rfl rfl rfl rfl ?_ ?_; (focus (repeat (first | exact trivial | assumption | exact OkA.z (by kernel_rfl) (by kernel_rfl) | refine ⟨rfl, ?_⟩ | refine ⟨?_, ?_⟩))))))); clear hH; intro W g hH; (try simp only [Act.put, pA, pB, pC]))) | (((first | (refine hApp 1 0 tab_ok tabs_ok rfl rfl rfl rfl rfl rfl rfl hH rfl rfl rfl rfl ?_; refine ⟨?_, ?_, ?_⟩; (focus assumption); (focus (first | omega | (simp; omega))))); clear hH; intro W g c p q J hG hL hJ hH; (try simp only [putH, fls, List.append_nil] at hH hL); (try simp only [Act.put, pA, pB, pC]))))
                      have hp := hG.hp
                      have hq := hG.hq
                      have hle := hG.le
                      have hmo := hG.most
                      clear hG
                      have e1 : (Xo ++ [(⟨⟨ka, Ga, exa, la⟩, pa, ca⟩ : Ev)]).length = Xo.length + 1 := by simp
                      have e2 : evsL (Xo ++ [(⟨⟨ka, Ga, exa, la⟩, pa, ca⟩ : Ev)]) = evsL Xo ++ (.int .i64 ka :: (YA ++ [.bool exa, .slice pa la.length ca])) := by rw [evsL_snoc, HYA.out]; rfl
                      refine ⟨⟨k + 1, false, (Xo ++ [(⟨⟨ka, Ga, exa, la⟩, pa, ca⟩ : Ev)]), g, c, q, J, by simp, rfl, by omega, by rw [e1]; omega, by rw [e1] <;> simp, HR, by rw [e1]; exact ⟨rfl, by rw [← hq, hp] <;> rfl, hle, hmo⟩, hJ, ?_⟩, by simp [intOf]; omega⟩
                      rw [show (Xo ++ [(⟨⟨ka, Ga, exa, la⟩, pa, ca⟩ : Ev)]).length * 20 = p by rw [hp, e1] <;> rfl, e2]
                      exact hH.sub (SubH.drop (SubH.refl))
                  · have dz : (z != 1) = true := by simpa using hz1
                    have dz2 : decide (z ≠ 1) = true := decide_eq_true hz1
                    rw [dz2] at hr
                    clear dz2
                    by_cases hki : (k : Int) = i
                    · have HR := Lib.hid (show goR (fun a : Ev => insR ⟨ky, Gy, exy, ly⟩ a.e) (⟨⟨ky, Gy, exy, ly⟩, sy, cy⟩ : Ev) i (k + 1) true (X.drop (k + 1)) (Xo ++ [(⟨⟨ky, Gy, exy, ly⟩, sy, cy⟩ : Ev)]) = res by rw [if_pos hki] at hr; simpa using hr)
                      have dki : ((k : Int) != i) = false := by simpa using hki
                      clear hr hz1
                      clear hki
                      go_wp2_with (fail)
                      ((with_reducible refine regKN [] hH (SubH.refl) (by kernel_rfl) ?_); (clear hH; intro W hH); (refine hk_pures (fuel := 5) (pk 0 rfl (pk 1 rfl (pk 2 rfl (pk 3 rfl (pk 5 rfl (pk 6 rfl (pk 7 rfl (PickR.nil)))))))) (by kernel_rfl) (by kernel_rfl) (fun _ _ _ _ _ h => h) ?_; (repeat (go_big_quiet_step (fail))); refine hk_nil ?_); (refine hk_loads (fuel := 3) (pk 4 rfl (pk 8 rfl (PickR.nil))) (by kernel_rfl) (by kernel_rfl) (fun _ _ _ _ _ h => h) hH ?_ ?_; (focus (exact SubI.h)); intro hne; (repeat (first | (go_big_quiet_want; (first | (refine qiL tab_ok rfl rfl ?_; refine ⟨_, _, rfl, rfl, ?_⟩) | ((first | (refine qLoR tab_ok rfl rfl rfl rfl ?_; refine ⟨_, fA, ⟨rfl, oA, rfl, rfl, trivial⟩, rfl, ?_⟩)))); (try simp only [Act.put, pA, pB, pC]); go_big_quiet_on) | go_big_quiet_step (fail))); refine hk_nil ?_; clear hne); (refine hk_one (fuel := 2) 9 rfl (by kernel_rfl) ?_; go_wp2_with (first | ((first | ((with_reducible refine callH hH ?_); refine ⟨?_, ?_, ?_⟩; rotate_left; (focus (first | (with_reducible exact fC _))))); clear hH; (first | intro W g hH | intro W hH); ((try simp only [Act.put, pA, pB, pC])))); refine hkQ_normal hH ?_ ?_; (focus (exact SubI.h)); (try simp only [Act.put, pA, pB, pC])); (refine hk_pures (fuel := 0) (pk 10 rfl (pk 11 rfl (PickR.nil))) (by kernel_rfl) (by kernel_rfl) (fun _ _ _ _ _ h => h) ?_; (repeat (go_big_quiet_step (fail))); refine hk_nil ?_); refine hk_endN (by kernel_rfl) ?_)
                      go_wp2_with (first | ((refine hSl tab_ok rfl ?_ rfl tabs_ok rfl rfl rfl rfl rfl hH ?_; (focus first|exact wN rfl|exact rfl); refine ⟨?_, ?_, ?_⟩; rotate_left; (focus (repeat (first | exact BR.nil | refine BR.one rfl rfl rfl ?_ | (refine BR.row rfl rfl rfl rfl ?_ ?_; (focus (repeat (first | exact trivial | assumption | exact OkA.z (by kernel_rfl) (by kernel_rfl) | refine ⟨rfl, ?_⟩ | refine ⟨?_, ?_⟩))))))); clear hH; intro W g hH; (try simp only [Act.put, pA, pB, pC]))) | (((first | (refine hApp 1 0 tab_ok tabs_ok rfl rfl rfl rfl rfl rfl rfl hH rfl rfl rfl rfl ?_; refine ⟨?_, ?_, ?_⟩; (focus assumption); (focus (first | omega | (simp; omega))))); clear hH; intro W g c p q J hG hL hJ hH; (try simp only [putH, fls, List.append_nil] at hH hL); (try simp only [Act.put, pA, pB, pC]))) | ((first | (refine iL tab_ok rfl ?_ rfl hH ?_; (focus first|exact wN rfl|exact rfl); refine ⟨_, _, rfl, rfl, ?_⟩)); clear hH; (first | intro W g hH | intro W hH); ((try simp only [Act.put, pA, pB, pC]))))
                      have hp := hG.hp
                      have hq := hG.hq
                      have hle := hG.le
                      have hmo := hG.most
                      clear hG
                      have e1 : (Xo ++ [(⟨⟨ky, Gy, exy, ly⟩, sy, cy⟩ : Ev)]).length = Xo.length + 1 := by simp
                      have e2 : evsL (Xo ++ [(⟨⟨ky, Gy, exy, ly⟩, sy, cy⟩ : Ev)]) = evsL Xo ++ (.int .i64 ky :: (Y ++ [.bool exy, .slice sy ly.length cy])) := by rw [evsL_snoc, HY.out]; rfl
                      refine ⟨⟨k + 1, true, (Xo ++ [(⟨⟨ky, Gy, exy, ly⟩, sy, cy⟩ : Ev)]), g, c, q, J, by simp, rfl, by omega, by rw [e1]; omega, by rw [e1] <;> simp, HR, by rw [e1]; exact ⟨rfl, by rw [← hq, hp] <;> rfl, hle, hmo⟩, hJ, ?_⟩, by simp [intOf]; omega⟩
                      rw [show (Xo ++ [(⟨⟨ky, Gy, exy, ly⟩, sy, cy⟩ : Ev)]).length * 20 = p by rw [hp, e1] <;> rfl, e2]
                      exact hH.sub (SubH.drop (SubH.refl))
                    · have HR := Lib.hid (show goR (fun a : Ev => insR ⟨ky, Gy, exy, ly⟩ a.e) (⟨⟨ky, Gy, exy, ly⟩, sy, cy⟩ : Ev) i (k + 1) true (X.drop (k + 1)) (Xo ++ [(⟨⟨ky, Gy, exy, ly⟩, sy, cy⟩ : Ev)] ++ [(⟨⟨ka, Ga, exa, la⟩, pa, ca⟩ : Ev)]) = res by rw [if_neg hki] at hr; simpa using hr)
                      have dki : ((k : Int) != i) = true := by simpa using hki
                      clear hr hz1
                      go_wp2_with (fail)
                      ((with_reducible refine regKN [] hH (SubH.refl) (by kernel_rfl) ?_); (clear hH; intro W hH); (refine hk_pures (fuel := 5) (pk 0 rfl (pk 1 rfl (pk 2 rfl (pk 3 rfl (pk 5 rfl (pk 6 rfl (pk 7 rfl (PickR.nil)))))))) (by kernel_rfl) (by kernel_rfl) (fun _ _ _ _ _ h => h) ?_; (repeat (go_big_quiet_step (fail))); refine hk_nil ?_); (refine hk_loads (fuel := 3) (pk 4 rfl (pk 8 rfl (PickR.nil))) (by kernel_rfl) (by kernel_rfl) (fun _ _ _ _ _ h => h) hH ?_ ?_; (focus (exact SubI.h)); intro hne; (repeat (first | (go_big_quiet_want; (first | (refine qiL tab_ok rfl rfl ?_; refine ⟨_, _, rfl, rfl, ?_⟩) | ((first | (refine qLoR tab_ok rfl rfl rfl rfl ?_; refine ⟨_, fA, ⟨rfl, oA, rfl, rfl, trivial⟩, rfl, ?_⟩)))); (try simp only [Act.put, pA, pB, pC]); go_big_quiet_on) | go_big_quiet_step (fail))); refine hk_nil ?_; clear hne); (refine hk_one (fuel := 2) 9 rfl (by kernel_rfl) ?_; go_wp2_with (first | ((first | ((with_reducible refine callH hH ?_); refine ⟨?_, ?_, ?_⟩; rotate_left; (focus (first | (with_reducible exact fC _))))); clear hH; (first | intro W g hH | intro W hH); ((try simp only [Act.put, pA, pB, pC])))); refine hkQ_normal hH ?_ ?_; (focus (exact SubI.h)); (try simp only [Act.put, pA, pB, pC])); (refine hk_pures (fuel := 0) (pk 10 rfl (pk 11 rfl (PickR.nil))) (by kernel_rfl) (by kernel_rfl) (fun _ _ _ _ _ h => h) ?_; (repeat (go_big_quiet_step (fail))); refine hk_nil ?_); refine hk_endN (by kernel_rfl) ?_)
                      go_wp2_with (first | ((refine gL rfl ?_; refine hLoR tab_ok rfl ?_ rfl hH rfl rfl ?_; (focus first|exact wN rfl|exact rfl); refine ⟨_, fA, ⟨rfl, oA, rfl, rfl, trivial⟩, rfl, ?_⟩; (clear hH; (first | intro W g hH | intro W hH); (try simp only [Act.put, pA, pB, pC])))) | ((refine hSl tab_ok rfl ?_ rfl tabs_ok rfl rfl rfl rfl rfl hH ?_; (focus first|exact wN rfl|exact rfl); refine ⟨?_, ?_, ?_⟩; rotate_left; (focus (repeat (first | exact BR.nil | refine BR.one rfl rfl rfl ?_ | (refine BR.row rfl rfl rfl rfl ?_ ?_; (focus (repeat (first | exact trivial | assumption | exact OkA.z (by kernel_rfl) (by kernel_rfl) | refine ⟨rfl, ?_⟩ | refine ⟨?_, ?_⟩))))))); clear hH; intro W g hH; (try simp only [Act.put, pA, pB, pC]))) | (((first | (refine hApp 1 0 tab_ok tabs_ok rfl rfl rfl rfl rfl rfl rfl hH rfl rfl rfl rfl ?_; refine ⟨?_, ?_, ?_⟩; (focus assumption); (focus (first | omega | (simp; omega))))); clear hH; intro W g c p q J hG hL hJ hH; (try simp only [putH, fls, List.append_nil] at hH hL); (try simp only [Act.put, pA, pB, pC]))) | (((first | (refine hApp 2 0 tab_ok tabs_ok rfl rfl rfl rfl rfl rfl rfl hH rfl rfl rfl rfl ?_; refine ⟨?_, ?_, ?_⟩; (focus assumption); (focus (first | omega | (simp; omega))))); clear hH; intro W g c p q J hG hL hJ hH; (try simp only [putH, fls, List.append_nil] at hH hL); (try simp only [Act.put, pA, pB, pC]))) | ((first | (refine iL tab_ok rfl ?_ rfl hH ?_; (focus first|exact wN rfl|exact rfl); refine ⟨_, _, rfl, rfl, ?_⟩)); clear hH; (first | intro W g hH | intro W hH); ((try simp only [Act.put, pA, pB, pC]))))
                      have hp := hG.hp
                      have hq := hG.hq
                      have hle := hG.le
                      have hmo := hG.most
                      clear hG
                      have e1 : (Xo ++ [(⟨⟨ky, Gy, exy, ly⟩, sy, cy⟩ : Ev)] ++ [(⟨⟨ka, Ga, exa, la⟩, pa, ca⟩ : Ev)]).length = Xo.length + 1 + 1 := by simp
                      have e2 : evsL (Xo ++ [(⟨⟨ky, Gy, exy, ly⟩, sy, cy⟩ : Ev)] ++ [(⟨⟨ka, Ga, exa, la⟩, pa, ca⟩ : Ev)]) = evsL Xo ++ (.int .i64 ky :: (Y ++ [.bool exy, .slice sy ly.length cy])) ++ (.int .i64 ka :: (YA ++ [.bool exa, .slice pa la.length ca])) := by rw [evsL_snoc, evsL_snoc, HY.out, HYA.out]; rfl
                      refine ⟨⟨k + 1, true, (Xo ++ [(⟨⟨ky, Gy, exy, ly⟩, sy, cy⟩ : Ev)] ++ [(⟨⟨ka, Ga, exa, la⟩, pa, ca⟩ : Ev)]), g, c, q, J, by simp, rfl, by omega, by rw [e1]; omega, by rw [e1] <;> simp, HR, by rw [e1]; exact ⟨rfl, by rw [← hq, hp] <;> rfl, hle, hmo⟩, hJ, ?_⟩, by simp [intOf]; omega⟩
                      rw [show (Xo ++ [(⟨⟨ky, Gy, exy, ly⟩, sy, cy⟩ : Ev)] ++ [(⟨⟨ka, Ga, exa, la⟩, pa, ca⟩ : Ev)]).length * 20 = p by rw [hp, e1] <;> rfl, e2]
                      exact hH.sub (SubH.drop (SubH.drop (SubH.refl)))
              · have dk : decide ((k : Int) < (X.length : Int)) = false := decide_eq_false (by omega)
                have hX2 : Xo.length ≤ 2000 := by omega
                have hr := HR.out
                rw [List.drop_of_length_le (by omega)] at hr
                unfold goR at hr
                have hkl2 : X.length ≤ k := by omega
                clear HR HC FC f1 f3 HF2 HNO HPL
                cases d with
                | true =>
                  have hfin : endR (⟨⟨ky, Gy, exy, ly⟩, sy, cy⟩ : Ev) res = Xo := by rw [← hr]; rfl
                  rw [hfin] at HEND
                  clear hr hfin
                  go_wp2_with (fail)
                  go_ret
                  exact HEND.out _ _ _ _ _ (hH.sub (SubH.keep SubH.nil))
                | false =>
                  have hfin : endR (⟨⟨ky, Gy, exy, ly⟩, sy, cy⟩ : Ev) res = Xo ++ [(⟨⟨ky, Gy, exy, ly⟩, sy, cy⟩ : Ev)] := by rw [← hr]; rfl
                  rw [hfin] at HEND
                  clear hr hfin
                  go_wp2_with (first | ((refine hSl tab_ok rfl ?_ rfl tabs_ok rfl rfl rfl rfl rfl hH ?_; (focus first|exact wN rfl|exact rfl); refine ⟨?_, ?_, ?_⟩; rotate_left; (focus (repeat (first | exact BR.nil | refine BR.one rfl rfl rfl ?_ | (refine BR.row rfl rfl rfl rfl ?_ ?_; (focus (repeat (first | exact trivial | assumption | exact OkA.z (by kernel_rfl) (by kernel_rfl) | refine ⟨rfl, ?_⟩ | refine ⟨?_, ?_⟩))))))); clear hH; intro W g hH; (try simp only [Act.put, pA, pB, pC]))) | (((first | (refine hApp 1 0 tab_ok tabs_ok rfl rfl rfl rfl rfl rfl rfl hH rfl rfl rfl rfl ?_; refine ⟨?_, ?_, ?_⟩; (focus assumption); (focus (first | omega | (simp; omega))))); clear hH; intro W g c p q J hG hL hJ hH; (try simp only [putH, fls, List.append_nil] at hH hL); (try simp only [Act.put, pA, pB, pC]))) | ((first | (refine iL tab_ok rfl ?_ rfl hH ?_; (focus first|exact wN rfl|exact rfl); refine ⟨_, _, rfl, rfl, ?_⟩)); clear hH; (first | intro W g hH | intro W hH); ((try simp only [Act.put, pA, pB, pC]))))
                  go_ret
                  have hp := hG.hp
                  clear hG
                  have e1 : (Xo ++ [(⟨⟨ky, Gy, exy, ly⟩, sy, cy⟩ : Ev)]).length = Xo.length + 1 := by simp
                  have e2 : evsL (Xo ++ [(⟨⟨ky, Gy, exy, ly⟩, sy, cy⟩ : Ev)]) = evsL Xo ++ (.int .i64 ky :: (Y ++ [.bool exy, .slice sy ly.length cy])) := by rw [evsL_snoc, HY.out]; rfl
                  have h := HEND.out W g c q J (by rw [show (Xo ++ [(⟨⟨ky, Gy, exy, ly⟩, sy, cy⟩ : Ev)]).length * 20 = p by rw [hp, e1] <;> rfl, e2]; exact hH.sub (SubH.drop (SubH.keep SubH.nil)))
                  rw [e1] at h
                  exact h
end
end Go.Proofs.Ytdbdlhmgokllaaa
