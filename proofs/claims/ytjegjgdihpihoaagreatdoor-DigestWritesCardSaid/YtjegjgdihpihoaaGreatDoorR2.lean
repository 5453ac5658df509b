/-
  Contract of package digest: read.
-/
import Derived.Test.YtjegjgdihpihoaaGreatDoorR1
import Derived.Test.YtjegjgdihpihoaaGreatDoorIn
namespace Go.Proofs.YtjegjgdihpihoaaGreatDoor
-- %in
open Go.ChangeShapes Go.WideShapes Go.ChangeAt Go.RowKit
set_option linter.unusedVariables false
set_option linter.unusedSimpArgs false
set_option maxRecDepth 20000
attribute [local irreducible] wpList

def RdCP (w : World) (x : Ch) (n : Nat) (c : Int) (e : Ending) (w' : World) : Prop := ∃ p cc D, e = .returned (.tuple #[.agg (fls (chS x p cc)).toArray, .int .i64 (n : Int), .int .i64 c]) ∧ Made w w' D ∧ ∀ B w0 W, Hp B w0 W D → AdsAt W p x.e.src
theorem RdCP.mk {w : World} {x : Ch} {n : Nat} {c : Int} {e : Ending} {w' : World} {p : Option Addr} {cc : Nat} {D : HB} (h1 : e = .returned (.tuple #[.agg (fls (chS x p cc)).toArray, .int .i64 (n : Int), .int .i64 c])) (h2 : Made w w' D) (h3 : ∀ B w0 W, Hp B w0 W D → AdsAt W p x.e.src) : RdCP w x n c e w' := ⟨p, cc, D, h1, h2, h3⟩
theorem strNeD {a b : ByteArray} (h : a ≠ b) : (a.toList == b.toList) = false := by
  rw [ByteArray.toList_eq, ByteArray.toList_eq]
  cases hq : (a.data.toList == b.data.toList)
  · rfl
  · exact absurd (Go.WideShapes.bytes_inj (by simpa using hq)) h
theorem zen : zeroL Tryz.prog 29 = .int .i64 0 :: (zeroL Tryz.prog 24 ++ [.bool false, .slice none 0 0]) := by kernel_rfl
theorem zch_seg (b : Bool) : fls [.many (zeroL Tryz.prog 29) 20, .one (.bool b)] = fls [.one (.int .i64 0), .many (zeroL Tryz.prog 24) 17, .one (.bool false), .one (.slice none 0 0), .one (.bool b)] := by
  rw [zen]
  simp [fls]
theorem zchS : fls (chS Ch.z none 0) = fls [.many (zeroL Tryz.prog 29) 20, .one (.bool false)] := by
  rw [zch_seg]
  unfold chS Ch.z
  simp only
  rw [adL_z]
  rfl
theorem zch_ok (b : Bool) : okS [.one (.int .i64 0), .many (zeroL Tryz.prog 24) 17, .one (.bool false), .one (.slice none 0 0), .one (.bool b)] := ⟨rfl, OkA.z (by kernel_rfl) (by kernel_rfl), rfl, rfl, rfl, trivial⟩
section
variable {w : World} {s : ByteArray}
set_option maxHeartbeats 8000000 in
theorem dread_any (hs : s.size ≤ 100000) : Calls Tryz.prog 25 #[.string s] w fun e w' => RdCP w (readC s).1 (readC s).2.1 (readC s).2.2 e w' := by
  have hH := Hp.refl w
  generalize hres : readC s = res
  unfold readC rawC at hres
  simp only at hres
  obtain ⟨v, k1, b1, q1, q1', hv, hk1, N1⟩ := numX (B := w.heap.size) (w0 := w) (s := s) (n := 1) (by omega) hs false (Nat.zero_le _)
  simp only [q1, q1'] at hres
  clear q1 q1'
  obtain ⟨n, k2, b2, q2, q2', hn, hk2, N2⟩ := numX (B := w.heap.size) (w0 := w) (s := s) (n := 2) (by omega) hs b1 hk1
  simp only [q2, q2'] at hres
  clear q2 q2'
  replace N1 : NumR w.heap.size w s 1 0 false v k1 b1 := N1
  replace N2 : NumR w.heap.size w s 2 k1 b1 n k2 b2 := N2
  replace N1 := Lib.hid N1
  replace N2 := Lib.hid N2
  obtain ⟨x1, x2, x4⟩ := andD v (by omega)
  have e1 : decide (v % 2 = 1) = (((if v % 2 = 1 then 1 else 0 : Nat) : Int) != 0) := by by_cases h : v % 2 = 1 <;> simp [h]
  have e2 : decide (v / 2 % 2 = 1) = (((if v / 2 % 2 = 1 then 2 else 0 : Nat) : Int) != 0) := by by_cases h : v / 2 % 2 = 1 <;> simp [h]
  have e4 : wdF v = if (((if v / 4 % 2 = 1 then 4 else 0 : Nat) : Int) != 0) = true then 16 else 4 := by unfold wdF; by_cases h : v / 4 % 2 = 1 <;> simp [h]
  rw [e1, e2, e4] at hres
  clear e1 e2 e4
  generalize (((if v % 2 = 1 then 1 else 0 : Nat)) : Int) = y1 at *
  generalize (((if v / 2 % 2 = 1 then 2 else 0 : Nat)) : Int) = y2 at *
  generalize (((if v / 4 % 2 = 1 then 4 else 0 : Nat)) : Int) = y4 at *
  obtain ⟨qg, hqg⟩ : ∃ v, (y1 != 0) = v := ⟨_, rfl⟩
  obtain ⟨qe, hqe⟩ : ∃ v, (y2 != 0) = v := ⟨_, rfl⟩
  rw [hqg, hqe] at hres
  have hcut := show k2 ≤ s.size from hk2
  obtain ⟨wd, hwd, hwi⟩ : ∃ wd : Nat, (if (y4 != 0) = true then 16 else 4) = wd ∧ ((wd = 4 ∧ (y4 != 0) = false) ∨ (wd = 16 ∧ (y4 != 0) = true)) := by
    cases h : (y4 != 0)
    · exact ⟨4, rfl, .inl ⟨rfl, rfl⟩⟩
    · exact ⟨16, rfl, .inr ⟨rfl, rfl⟩⟩
  rw [hwd] at hres
  clear hwd
  obtain ⟨S3, a, k3, b3, c3, q3, q3', hk3, T3, R3⟩ := takX (B := w.heap.size) (w0 := w) (s := s) (n := wd) (by omega) hs b2 hk2
  simp only [q3, q3'] at hres
  clear q3 q3'
  obtain ⟨m, k4, b4, q4, q4', hm, hk4, N4⟩ := numX (B := w.heap.size) (w0 := w) (s := s) (n := 1) (by omega) hs b3 hk3
  simp only [q4, q4'] at hres
  clear q4 q4'
  replace N4 : NumR w.heap.size w s 1 k3 b3 m k4 b4 := N4
  replace N4 := Lib.hid N4
  obtain ⟨L, ⟨k5, b5⟩, q5⟩ : ∃ L t, srP s wd m [] (k4, b4) = (L, t) := ⟨_, _, rfl⟩
  rw [q5] at hres
  simp only at hres
  have hk5 : k5 ≤ s.size := by have := srP_k (s := s) (wd := wd) (m := m) (L := []) (t := (k4, b4)) hk4; rw [q5] at this; exact this
  have HL := Lib.hid q5
  have HRES := Lib.hid hres
  have hs' : s.size < 9223372036854775808 := by omega
  have hT := Lib.hid (show ∀ (k : Nat), k ≤ s.size → ∃ S a k' b' c, adP s wd (k, false) = a ∧ rdP s wd (k, false) = (k', b') ∧ k' ≤ s.size ∧ TakR w.heap.size w s (wd : Int) k false S k' b' ∧ ∀ w, Gives Tryz.prog 50 #[.string S] w (.tuple #[.agg (fls [.many (adL a) 17]).toArray, .int .i64 c]) from fun k hk => takX (by omega) hs false hk)
  have hm' : m ≤ 255 := by omega
  have hn' : n ≤ 65535 := by omega
  clear q5 hres hm hn hv hcut
  have u1 := i64_small (n := n) (Nat.lt_of_le_of_lt hn' (by decide))
  have u2 := i64_small (n := m) (Nat.lt_of_le_of_lt hm' (by decide))
  have u3 := u1
  have u4 := u2
  rw [IntKind.wrap_i64] at u3 u4
  have oA := adL_ok a
  obtain ⟨A, hA⟩ : ∃ Y, Y = adL a := ⟨_, rfl⟩
  have HA := Lib.hid hA
  rw [← hA] at R3 oA
  clear hA
  have hor0 : 0 = 0 := rfl
  rcases hwi with ⟨rfl, h4⟩ | ⟨rfl, h4⟩
  · replace T3 : TakR w.heap.size w s 4 k2 b2 S3 k3 b3 := T3
    replace T3 := Lib.hid T3
    go_enter Tryz.func25, Tryz.ntmps25
    go_wp2_with (first | ((go_at_call 48; (obtain ⟨g2, hg2⟩ : ∃ x, x = g := ⟨_, rfl⟩); subst hg2; refine hNew hH ?_; (clear hH; intro W gr hH); ((try simp only [Act.put, pA, pB, pC])))) | ((go_at_call 49; (first | refine N1.out _ _ _ _ _ _ 0 ?_ hH rfl rfl ?_ | refine N2.out _ _ _ _ _ _ 1 ?_ (hH.re0 (zch_seg qg) (zch_ok qg)) rfl rfl ?_ | refine N4.out _ _ _ _ _ _ 1 ?_ hH rfl rfl ?_); (focus rfl); (clear hH; (first | intro W g hH | intro W hH); (try simp only [Act.put, pA, pB, pC])))) | ((go_at_call 51; refine T3.out _ _ _ _ _ _ 1 ?_ hH rfl rfl ?_; (focus rfl); (clear hH; (first | intro W g hH | intro W hH); (try simp only [Act.put, pA, pB, pC])))) | ((first | (refine iS1 tab_ok rfl ?_ rfl hH ?_; (focus (first | exact wN rfl | exact rfl)); refine ⟨_, _, _, _, rfl, rfl, rfl, rfl, rfl, ?_⟩) | (refine iSR tab_ok rfl ?_ rfl hH ?_; (focus (first | exact wN rfl | exact rfl)); refine ⟨_, _, _, _, rfl, rfl, rfl, rfl, rfl, ?_, ?_⟩; (focus (repeat (first | exact trivial | assumption | exact OkA.z (by kernel_rfl) (by kernel_rfl) | refine ⟨rfl, ?_⟩ | refine ⟨?_, ?_⟩)))) | (refine hAl tab_ok rfl ?_ hH rfl ?_; (focus (first | exact wN rfl | exact rfl))) | (refine hBd tab_ok rfl ?_ rfl rfl rfl hH ?_; (focus (first | exact wN rfl | exact rfl)); refine ⟨?_, ?_, ?_⟩; rotate_left; (focus (repeat (first | exact BR.nil | refine BR.one rfl rfl rfl ?_ | (refine BR.row rfl rfl rfl rfl ?_ ?_; (focus (repeat (first | exact trivial | assumption | exact OkA.z (by kernel_rfl) (by kernel_rfl) | refine ⟨rfl, ?_⟩ | refine ⟨?_, ?_⟩)))))))) | ((with_reducible refine callH hH ?_); refine ⟨?_, ?_, ?_⟩; rotate_left; (focus (first | (with_reducible exact R3 _))))); clear hH; (first | intro W g hH | intro W hH); ((try simp only [Act.put, pA, pB, pC]))))
    go_loopw [9] (fun sl wr => ∃ (X : List Ad) (m' k' : Nat) (b' : Bool), sl = .int .i64 (m' : Int) ∧ Hid (srP s 4 m' X (k', b') = (L, (k5, b5))) ∧ k' ≤ s.size ∧ m' + X.length ≤ 255 ∧ ((X = [] ∧ Hp w.heap.size w wr [(g, 31, true, [.one (.int .i64 (n : Int)), .many A 17, .one (.bool qe), .one (.slice none 0 0), .one (.bool qg)]), (gr, 83, true, [.one (.string s), .one (.int .i64 (k' : Int)), .one (.bool b')]), (g2, 31, true, [.many (zeroL Tryz.prog 29) 20, .one (.bool false)])]) ∨ (∃ (go cc q : Nat) (J : List Value), Grow 17 X.length cc (X.length * 17) q ∧ OkA J q ∧ Hp w.heap.size w wr [(go, 24, true, [.many (adsL X) (X.length * 17), .many J q]), (g, 31, true, [.one (.int .i64 (n : Int)), .many A 17, .one (.bool qe), .one (.slice (some ⟨go, 0, none⟩) X.length cc), .one (.bool qg)]), (gr, 83, true, [.one (.string s), .one (.int .i64 (k' : Int)), .one (.bool b')]), (g2, 31, true, [.many (zeroL Tryz.prog 29) 20, .one (.bool false)])]))) (fun sl _ => (intOf sl).toNat)
    case atStart => exact ⟨[], m, k4, b4, rfl, HL, hk4, by simpa using hm', .inl ⟨rfl, hH⟩⟩
    case round =>
      clear hH HL
      obtain ⟨X, m', k', b', rfl, HL, hk', hmX, hor⟩ := hrel
      by_cases hx : m' = 0 ∨ b' = true
      · have HE := HL.out
        rw [srP_end hx] at HE
        obtain ⟨rfl, h2⟩ := Prod.mk.inj HE
        obtain ⟨rfl, rfl⟩ := Prod.mk.inj h2
        clear HE h2 HL hT
        have hX : X.length ≤ 255 := by omega
        clear hmX
        obtain ⟨p, cc, D, hya, hDo, hH⟩ : ∃ p cc D, Hid (∀ B w0 W, Hp B w0 W D → AdsAt W p X) ∧ Hid (∀ r ∈ D, r.2.2.1 = true) ∧ Hp w.heap.size w wr ((g, 31, true, [.one (.int .i64 (n : Int)), .many A 17, .one (.bool qe), .one (.slice p X.length cc), .one (.bool qg)]) :: (gr, 83, true, [.one (.string s), .one (.int .i64 (k' : Int)), .one (.bool b')]) :: (g2, 31, true, [.many (zeroL Tryz.prog 29) 20, .one (.bool false)]) :: D) := by
          rcases hor with ⟨rfl, hH⟩ | ⟨go, cc, q, J, hG, oJ, hH⟩
          · exact ⟨none, 0, [], Lib.hid (fun _ _ _ _ => AdsAt.nil), Lib.hid (fun r hr => by simp at hr), hH⟩
          · exact ⟨some ⟨go, 0, none⟩, cc, [(go, _, true, [.many (adsL X) (X.length * 17), .many J q])], Lib.hid (fun B w0 W h => by exact adsAt_row (J := J) (by omega) (by simpa [fls] using (h.rows.mem (i := 0) rfl).1)), Lib.hid (fun r hr => by simp at hr; rw [hr]), hH.perm ((List.Perm.swap _ _ _).trans (((List.Perm.swap _ _ _).trans ((List.Perm.swap _ _ _).cons _)).cons _))⟩
        clear hor
        cases b' with
        | true =>
          have hR := HRES.out
          rw [if_pos rfl] at hR
          subst hR
          clear HRES
          have hcase : (m' = 0) ∨ ∃ m2, m' = m2 + 1 := by cases m' <;> simp
          rcases hcase with rfl | ⟨m2, rfl⟩
          · clear hx
            go_wp2_with (first | ((go_at_call 52; refine hBad 1 hH rfl ?_; (clear hH; (first | intro W g hH | intro W hH); (try simp only [Act.put, pA, pB, pC])))) | ((first | (refine iSR tab_ok rfl ?_ rfl hH ?_; (focus (first | exact wN rfl | exact rfl)); refine ⟨_, _, _, _, rfl, rfl, rfl, rfl, rfl, ?_, ?_⟩; (focus (repeat (first | exact trivial | assumption | exact OkA.z (by kernel_rfl) (by kernel_rfl) | refine ⟨rfl, ?_⟩ | refine ⟨?_, ?_⟩)))) | (refine hBd tab_ok rfl ?_ rfl rfl rfl hH ?_; (focus (first | exact wN rfl | exact rfl)); refine ⟨?_, ?_, ?_⟩; rotate_left; (focus (repeat (first | exact BR.nil | refine BR.one rfl rfl rfl ?_ | (refine BR.row rfl rfl rfl rfl ?_ ?_; (focus (repeat (first | exact trivial | assumption | exact OkA.z (by kernel_rfl) (by kernel_rfl) | refine ⟨rfl, ?_⟩ | refine ⟨?_, ?_⟩))))))))); clear hH; (first | intro W g hH | intro W hH); ((try simp only [Act.put, pA, pB, pC]))))
            refine retC3 Tryz.results25 tab_ok 2 rfl rfl hH rfl rfl rfl rfl ?_
            exact RdCP.mk (p := none) (cc := 0) (D := []) (by rw [zchS]; rfl) ⟨hH.nil, by simp⟩ (fun _ _ _ _ => AdsAt.nil)
          · clear hx
            have d1 : decide ((0 : Int) < (m2 : Int) + 1) = true := decide_eq_true (by omega)
            have d2 : decide (0 < m2 + 1) = true := decide_eq_true (by omega)
            go_wp2_with (first | ((go_at_call 52; refine hBad 1 hH rfl ?_; (clear hH; (first | intro W g hH | intro W hH); (try simp only [Act.put, pA, pB, pC])))) | ((first | (refine iSR tab_ok rfl ?_ rfl hH ?_; (focus (first | exact wN rfl | exact rfl)); refine ⟨_, _, _, _, rfl, rfl, rfl, rfl, rfl, ?_, ?_⟩; (focus (repeat (first | exact trivial | assumption | exact OkA.z (by kernel_rfl) (by kernel_rfl) | refine ⟨rfl, ?_⟩ | refine ⟨?_, ?_⟩)))) | (refine hBd tab_ok rfl ?_ rfl rfl rfl hH ?_; (focus (first | exact wN rfl | exact rfl)); refine ⟨?_, ?_, ?_⟩; rotate_left; (focus (repeat (first | exact BR.nil | refine BR.one rfl rfl rfl ?_ | (refine BR.row rfl rfl rfl rfl ?_ ?_; (focus (repeat (first | exact trivial | assumption | exact OkA.z (by kernel_rfl) (by kernel_rfl) | refine ⟨rfl, ?_⟩ | refine ⟨?_, ?_⟩))))))))); clear hH; (first | intro W g hH | intro W hH); ((try simp only [Act.put, pA, pB, pC]))))
            refine retC3 Tryz.results25 tab_ok 2 rfl rfl hH rfl rfl rfl rfl ?_
            exact RdCP.mk (p := none) (cc := 0) (D := []) (by rw [zchS]; rfl) ⟨hH.nil, by simp⟩ (fun _ _ _ _ => AdsAt.nil)
        | false =>
          have h0 : m' = 0 := by rcases hx with h | h; exact h; simp at h
          subst h0
          clear hx
          have hR := HRES.out
          rw [if_neg (by simp)] at hR
          have FG := Lib.hid (show ∀ (W : World) (p : Option Addr) (c : Nat), AdsAt W p X → Gives Tryz.prog 17 #[.agg (fls [.one (.int .i64 (n : Int)), .many A 17, .one (.bool qe), .one (.slice p X.length c), .one (.bool qg)]).toArray] W (.bool (goodC ⟨⟨(n : Int), a, qe, X⟩, qg⟩)) from fun W p c h => by rw [HA.out]; exact dgood_any (x := ⟨⟨(n : Int), a, qe, X⟩, qg⟩) h)
          have FW := Lib.hid (show goodC ⟨⟨(n : Int), a, qe, X⟩, qg⟩ = true → ∀ (W : World) (p : Option Addr) (c : Nat), AdsAt W p X → Gives Tryz.prog 18 #[.agg (fls [.one (.int .i64 (n : Int)), .many A 17, .one (.bool qe), .one (.slice p X.length c), .one (.bool qg)]).toArray] W (.string (writeC ⟨⟨(n : Int), a, qe, X⟩, qg⟩)) from fun hg W p c h => by rw [HA.out]; exact dwrite_any (x := ⟨⟨(n : Int), a, qe, X⟩, qg⟩) h (goodC_vlan hg) (goodC_len hg))
          obtain ⟨ch, hch⟩ : ∃ ch, (⟨⟨(n : Int), a, qe, X⟩, qg⟩ : Ch) = ch := ⟨_, rfl⟩
          have HCH := Lib.hid hch
          rw [hch] at FG FW hR
          clear hch HRES
          cases hgd : goodC ch
          · rw [hgd] at FG hR
            rw [Bool.false_and, if_neg (by simp)] at hR
            subst hR
            clear FW hgd
            go_wp2_with (first | ((go_at_call 52; refine hBad 1 hH rfl ?_; (clear hH; (first | intro W g hH | intro W hH); (try simp only [Act.put, pA, pB, pC])))) | ((first | (refine iL tab_ok rfl ?_ rfl hH ?_; (focus (first | exact wN rfl | exact rfl)); refine ⟨_, _, rfl, rfl, ?_⟩) | (refine iSR tab_ok rfl ?_ rfl hH ?_; (focus (first | exact wN rfl | exact rfl)); refine ⟨_, _, _, _, rfl, rfl, rfl, rfl, rfl, ?_, ?_⟩; (focus (repeat (first | exact trivial | assumption | exact OkA.z (by kernel_rfl) (by kernel_rfl) | refine ⟨rfl, ?_⟩ | refine ⟨?_, ?_⟩)))) | (refine hBd tab_ok rfl ?_ rfl rfl rfl hH ?_; (focus (first | exact wN rfl | exact rfl)); refine ⟨?_, ?_, ?_⟩; rotate_left; (focus (repeat (first | exact BR.nil | refine BR.one rfl rfl rfl ?_ | (refine BR.row rfl rfl rfl rfl ?_ ?_; (focus (repeat (first | exact trivial | assumption | exact OkA.z (by kernel_rfl) (by kernel_rfl) | refine ⟨rfl, ?_⟩ | refine ⟨?_, ?_⟩)))))))) | ((with_reducible refine callH hH ?_); refine ⟨?_, ?_, ?_⟩; rotate_left; (focus (first | (exact FG.out _ _ _ (hya.out _ _ _ (hH.sub (SubH.drop (SubH.drop (SubH.drop SubH.refl)))))))))); clear hH; (first | intro W g hH | intro W hH); ((try simp only [Act.put, pA, pB, pC]))))
            refine retC3 Tryz.results25 tab_ok 2 rfl rfl hH rfl rfl rfl rfl ?_
            exact RdCP.mk (p := none) (cc := 0) (D := []) (by rw [zchS]; rfl) ⟨hH.nil, by simp⟩ (fun _ _ _ _ => AdsAt.nil)
          · have FW1 := Lib.hid (FW.out hgd)
            rw [hgd] at FG hR
            rw [Bool.true_and] at hR
            clear FW hgd
            by_cases hwr : writeC ch = s.extract 0 k'
            · rw [if_pos (by simpa using hwr)] at hR
              rw [hwr] at FW1
              subst hR
              clear hwr
              go_wp2_with (first | ((go_at_call 52; refine hBad 1 hH rfl ?_; (clear hH; (first | intro W g hH | intro W hH); (try simp only [Act.put, pA, pB, pC])))) | ((go_at_call 53; refine hAt 1 hH rfl ?_; (clear hH; (first | intro W g hH | intro W hH); (try simp only [Act.put, pA, pB, pC])))) | ((first | (refine iL tab_ok rfl ?_ rfl hH ?_; (focus (first | exact wN rfl | exact rfl)); refine ⟨_, _, rfl, rfl, ?_⟩) | ((with_reducible refine callH hH ?_); refine ⟨?_, ?_, ?_⟩; rotate_left; (focus (first | (exact FG.out _ _ _ (hya.out _ _ _ (hH.sub (SubH.drop (SubH.drop (SubH.drop SubH.refl)))))) | (exact FW1.out _ _ _ (hya.out _ _ _ (hH.sub (SubH.drop (SubH.drop (SubH.drop SubH.refl)))))))))); clear hH; (first | intro W g hH | intro W hH); ((try simp only [Act.put, pA, pB, pC]))))
              ((with_reducible refine regKN [] hH (SubH.keep (SubH.keep SubH.nil)) (by kernel_rfl) ?_); (clear hH; intro W hH); (refine hk_pures (fuel := 5) (pk 1 rfl (PickR.nil)) (by kernel_rfl) (by kernel_rfl) (fun _ _ _ _ _ h => h) ?_; (repeat (go_big_quiet_step (fail))); refine hk_nil ?_); (refine hk_loads (fuel := 4) (pk 0 rfl (PickR.nil)) (by kernel_rfl) (by kernel_rfl) (fun _ _ _ _ _ h => h) hH ?_ ?_; (focus (exact SubI.h)); intro hne; (repeat (first | (go_big_quiet_want; (first | (refine qiL tab_ok rfl rfl ?_; refine ⟨_, _, rfl, rfl, ?_⟩)); (try simp only [Act.put, pA, pB, pC]); go_big_quiet_on) | go_big_quiet_step (fail))); refine hk_nil ?_; clear hne); (refine hk_one (fuel := 3) 2 rfl (by kernel_rfl) ?_; go_wp2_with (first | ((go_at_call 53; refine hAt 1 hH rfl ?_; (clear hH; (first | intro W g hH | intro W hH); (try simp only [Act.put, pA, pB, pC]))))); refine hkQ_normal hH ?_ ?_; (focus (exact SubI.h)); (try simp only [Act.put, pA, pB, pC])); (refine hk_one (fuel := 2) 3 rfl (by kernel_rfl) ?_; go_wp2_with (first | ((first | (refine iSR tab_ok rfl ?_ rfl hH ?_; (focus (first | exact wN rfl | exact rfl)); refine ⟨_, _, _, _, rfl, rfl, rfl, rfl, rfl, ?_, ?_⟩; (focus (repeat (first | exact trivial | assumption | exact OkA.z (by kernel_rfl) (by kernel_rfl) | refine ⟨rfl, ?_⟩ | refine ⟨?_, ?_⟩))))); clear hH; (first | intro W g hH | intro W hH); ((try simp only [Act.put, pA, pB, pC])))); refine hkQ_normal hH ?_ ?_; (focus (exact SubI.h)); (try simp only [Act.put, pA, pB, pC])); (refine hk_pures (fuel := 0) (pk 4 rfl (pk 5 rfl (PickR.nil))) (by kernel_rfl) (by kernel_rfl) (fun _ _ _ _ _ h => h) ?_; (repeat (go_big_quiet_step (fail))); refine hk_nil ?_); refine hk_endN (by kernel_rfl) ?_)
              go_wp2_with (fail)
              refine retC3 Tryz.results25 tab_ok 2 rfl rfl hH rfl rfl rfl rfl ?_
              exact RdCP.mk (p := p) (cc := cc) (D := D) (by rw [← HCH.out]; unfold chS; simp only; rw [← HA.out]; rfl) ⟨hH.sub (SubH.drop (SubH.drop (SubH.drop SubH.refl))), hDo.out⟩ (by rw [← HCH.out]; exact hya.out)
            · rw [if_neg (by simpa using hwr)] at hR
              subst hR
              generalize writeC ch = Wr at *
              have hne := strNeD hwr
              clear hwr
              go_wp2_with (first | ((go_at_call 52; refine hBad 1 hH rfl ?_; (clear hH; (first | intro W g hH | intro W hH); (try simp only [Act.put, pA, pB, pC])))) | ((go_at_call 53; refine hAt 1 hH rfl ?_; (clear hH; (first | intro W g hH | intro W hH); (try simp only [Act.put, pA, pB, pC])))) | ((first | (refine iL tab_ok rfl ?_ rfl hH ?_; (focus (first | exact wN rfl | exact rfl)); refine ⟨_, _, rfl, rfl, ?_⟩) | (refine iSR tab_ok rfl ?_ rfl hH ?_; (focus (first | exact wN rfl | exact rfl)); refine ⟨_, _, _, _, rfl, rfl, rfl, rfl, rfl, ?_, ?_⟩; (focus (repeat (first | exact trivial | assumption | exact OkA.z (by kernel_rfl) (by kernel_rfl) | refine ⟨rfl, ?_⟩ | refine ⟨?_, ?_⟩)))) | (refine hBd tab_ok rfl ?_ rfl rfl rfl hH ?_; (focus (first | exact wN rfl | exact rfl)); refine ⟨?_, ?_, ?_⟩; rotate_left; (focus (repeat (first | exact BR.nil | refine BR.one rfl rfl rfl ?_ | (refine BR.row rfl rfl rfl rfl ?_ ?_; (focus (repeat (first | exact trivial | assumption | exact OkA.z (by kernel_rfl) (by kernel_rfl) | refine ⟨rfl, ?_⟩ | refine ⟨?_, ?_⟩)))))))) | ((with_reducible refine callH hH ?_); refine ⟨?_, ?_, ?_⟩; rotate_left; (focus (first | (exact FG.out _ _ _ (hya.out _ _ _ (hH.sub (SubH.drop (SubH.drop (SubH.drop SubH.refl)))))) | (exact FW1.out _ _ _ (hya.out _ _ _ (hH.sub (SubH.drop (SubH.drop (SubH.drop SubH.refl)))))))))); clear hH; (first | intro W g hH | intro W hH); ((try simp only [Act.put, pA, pB, pC]))))
              refine retC3 Tryz.results25 tab_ok 2 rfl rfl hH rfl rfl rfl rfl ?_
              exact RdCP.mk (p := none) (cc := 0) (D := []) (by rw [zchS]; rfl) ⟨hH.nil, by simp⟩ (fun _ _ _ _ => AdsAt.nil)
      · obtain ⟨m', rfl⟩ : ∃ m2, m' = m2 + 1 := ⟨m' - 1, by omega⟩
        have hb' : b' = false := by simpa using fun h => hx (.inr h)
        subst hb'
        clear hx
        obtain ⟨S, y, k2', b2', c2, q3, q3', hk2', T, R⟩ := hT.out k' hk'
        have HL2 := Lib.hid (show srP s 4 m' (X ++ [y]) (k2', b2') = (L, (k5, b5)) by have := HL.out; rw [srP_more, q3, q3'] at this; exact this)
        clear HL q3 q3' hT
        replace T : TakR w.heap.size w s 4 k' false S k2' b2' := T
        replace T := Lib.hid T
        have hSnoc := Lib.hid (adsL_snoc X y)
        have oY := adL_ok y
        obtain ⟨Y, hY⟩ : ∃ Y, Y = adL y := ⟨_, rfl⟩
        rw [← hY] at R oY hSnoc
        have HY := Lib.hid hY
        clear hY
        have d1 : decide ((0 : Int) < (m' : Int) + 1) = true := decide_eq_true (by omega)
        have d2 : decide (0 < m' + 1) = true := decide_eq_true (by omega)
        have u5 : wrap64 (((m' : Int) + 1) - 1) = (m' : Int) := by unfold wrap64; omega
        rcases hor with ⟨rfl, hH⟩ | ⟨go, cc, q, J, hG, oJ, hH⟩
        · go_wp2_with (first | ((go_at_call 51; refine T.out _ _ _ _ _ _ 1 ?_ hH rfl rfl ?_; (focus rfl); (clear hH; (first | intro W g hH | intro W hH); (try simp only [Act.put, pA, pB, pC])))) | ((go_at_call 52; refine hBad 1 hH rfl ?_; (clear hH; (first | intro W g hH | intro W hH); (try simp only [Act.put, pA, pB, pC])))) | ((refine hSl tab_ok rfl ?_ rfl tabs_ok rfl rfl rfl rfl rfl hH ?_; (focus (first | exact wN rfl | exact rfl)); refine ⟨?_, ?_, ?_⟩; rotate_left; (focus (repeat (first | exact BR.nil | refine BR.one rfl rfl rfl ?_ | (refine BR.row rfl rfl rfl rfl ?_ ?_; (focus (repeat (first | exact trivial | assumption | exact OkA.z (by kernel_rfl) (by kernel_rfl) | refine ⟨rfl, ?_⟩ | refine ⟨?_, ?_⟩))))))); clear hH; intro W g hH; (try simp only [Act.put, pA, pB, pC]))) | (((first | (refine hApp0 0 tab_ok tabs_ok rfl rfl rfl rfl rfl rfl rfl hH rfl rfl rfl ?_; refine ⟨?_, ?_, ?_⟩; (focus (first | omega | (simp; omega))); (focus (first | omega | (simp; omega))))); clear hH; intro W g c p q J hG hL hJ hH; (try simp only [putH, fls, List.append_nil] at hH hL); (try simp only [Act.put, pA, pB, pC]))) | ((first | (refine iL tab_ok rfl ?_ rfl hH ?_; (focus (first | exact wN rfl | exact rfl)); refine ⟨_, _, rfl, rfl, ?_⟩) | (refine iS1 tab_ok rfl ?_ rfl hH ?_; (focus (first | exact wN rfl | exact rfl)); refine ⟨_, _, _, _, rfl, rfl, rfl, rfl, rfl, ?_⟩) | (refine iSR tab_ok rfl ?_ rfl hH ?_; (focus (first | exact wN rfl | exact rfl)); refine ⟨_, _, _, _, rfl, rfl, rfl, rfl, rfl, ?_, ?_⟩; (focus (repeat (first | exact trivial | assumption | exact OkA.z (by kernel_rfl) (by kernel_rfl) | refine ⟨rfl, ?_⟩ | refine ⟨?_, ?_⟩)))) | (refine hAl tab_ok rfl ?_ hH rfl ?_; (focus (first | exact wN rfl | exact rfl))) | ((with_reducible refine callH hH ?_); refine ⟨?_, ?_, ?_⟩; rotate_left; (focus (first | (with_reducible exact R _))))); clear hH; (first | intro W g hH | intro W hH); ((try simp only [Act.put, pA, pB, pC]))))
          have hp := hG.hp
          have hq := hG.hq
          have hle := hG.le
          have hmo := hG.most
          refine ⟨⟨[y], m', k2', b2', by first | rfl | simp, HL2, hk2', by simp at hmX ⊢; omega, .inr ⟨g, c, q, J, ⟨rfl, by rw [← hq, hp]; rfl, hle, hmo⟩, hJ, ?_⟩⟩, by simp only [intOf]; omega⟩
          have e2 : adsL [y] = Y := by rw [HY.out]; simp [adsL]
          have e1 : [y].length * 17 = p := by rw [hp]; simp
          rw [e2, e1]
          exact hH.sub (SubH.keep (SubH.drop (SubH.drop SubH.refl)))
        · go_wp2_with (first | ((go_at_call 51; refine T.out _ _ _ _ _ _ 2 ?_ hH rfl rfl ?_; (focus rfl); (clear hH; (first | intro W g hH | intro W hH); (try simp only [Act.put, pA, pB, pC])))) | ((go_at_call 52; refine hBad 2 hH rfl ?_; (clear hH; (first | intro W g hH | intro W hH); (try simp only [Act.put, pA, pB, pC])))) | ((refine hSl tab_ok rfl ?_ rfl tabs_ok rfl rfl rfl rfl rfl hH ?_; (focus (first | exact wN rfl | exact rfl)); refine ⟨?_, ?_, ?_⟩; rotate_left; (focus (repeat (first | exact BR.nil | refine BR.one rfl rfl rfl ?_ | (refine BR.row rfl rfl rfl rfl ?_ ?_; (focus (repeat (first | exact trivial | assumption | exact OkA.z (by kernel_rfl) (by kernel_rfl) | refine ⟨rfl, ?_⟩ | refine ⟨?_, ?_⟩))))))); clear hH; intro W g hH; (try simp only [Act.put, pA, pB, pC]))) | (((first | (refine hApp 2 0 tab_ok tabs_ok rfl rfl rfl rfl rfl rfl rfl hH rfl rfl rfl rfl ?_; refine ⟨?_, ?_, ?_⟩; (focus assumption); (focus (first | omega | (simp; omega))))); clear hH; intro W g c p q J hG hL hJ hH; (try simp only [putH, fls, List.append_nil] at hH hL); (try simp only [Act.put, pA, pB, pC]))) | ((first | (refine iL tab_ok rfl ?_ rfl hH ?_; (focus (first | exact wN rfl | exact rfl)); refine ⟨_, _, rfl, rfl, ?_⟩) | (refine iS1 tab_ok rfl ?_ rfl hH ?_; (focus (first | exact wN rfl | exact rfl)); refine ⟨_, _, _, _, rfl, rfl, rfl, rfl, rfl, ?_⟩) | (refine iSR tab_ok rfl ?_ rfl hH ?_; (focus (first | exact wN rfl | exact rfl)); refine ⟨_, _, _, _, rfl, rfl, rfl, rfl, rfl, ?_, ?_⟩; (focus (repeat (first | exact trivial | assumption | exact OkA.z (by kernel_rfl) (by kernel_rfl) | refine ⟨rfl, ?_⟩ | refine ⟨?_, ?_⟩)))) | (refine hAl tab_ok rfl ?_ hH rfl ?_; (focus (first | exact wN rfl | exact rfl))) | ((with_reducible refine callH hH ?_); refine ⟨?_, ?_, ?_⟩; rotate_left; (focus (first | (with_reducible exact R _))))); clear hH; (first | intro W g hH | intro W hH); ((try simp only [Act.put, pA, pB, pC]))))
          have hp := hG.hp
          have hq := hG.hq
          have hle := hG.le
          have hmo := hG.most
          have e1 : (X ++ [y]).length = X.length + 1 := by simp
          refine ⟨⟨X ++ [y], m', k2', b2', by first | rfl | simp, HL2, hk2', by rw [e1]; omega, .inr ⟨g, c, q, J, by rw [e1]; exact ⟨rfl, by rw [← hq, hp], hle, hmo⟩, hJ, ?_⟩⟩, by simp only [intOf]; omega⟩
          have e2 : (X ++ [y]).length * 17 = p := by rw [hp]; simp
          rw [e2, hSnoc.out, e1]
          exact hH.sub (SubH.drop (SubH.drop SubH.refl))
  · replace T3 : TakR w.heap.size w s 16 k2 b2 S3 k3 b3 := T3
    replace T3 := Lib.hid T3
    go_enter Tryz.func25, Tryz.ntmps25
    go_wp2_with (first | ((go_at_call 48; (obtain ⟨g2, hg2⟩ : ∃ x, x = g := ⟨_, rfl⟩); subst hg2; refine hNew hH ?_; (clear hH; intro W gr hH); ((try simp only [Act.put, pA, pB, pC])))) | ((go_at_call 49; (first | refine N1.out _ _ _ _ _ _ 0 ?_ hH rfl rfl ?_ | refine N2.out _ _ _ _ _ _ 1 ?_ (hH.re0 (zch_seg qg) (zch_ok qg)) rfl rfl ?_ | refine N4.out _ _ _ _ _ _ 1 ?_ hH rfl rfl ?_); (focus rfl); (clear hH; (first | intro W g hH | intro W hH); (try simp only [Act.put, pA, pB, pC])))) | ((go_at_call 51; refine T3.out _ _ _ _ _ _ 1 ?_ hH rfl rfl ?_; (focus rfl); (clear hH; (first | intro W g hH | intro W hH); (try simp only [Act.put, pA, pB, pC])))) | ((first | (refine iS1 tab_ok rfl ?_ rfl hH ?_; (focus (first | exact wN rfl | exact rfl)); refine ⟨_, _, _, _, rfl, rfl, rfl, rfl, rfl, ?_⟩) | (refine iSR tab_ok rfl ?_ rfl hH ?_; (focus (first | exact wN rfl | exact rfl)); refine ⟨_, _, _, _, rfl, rfl, rfl, rfl, rfl, ?_, ?_⟩; (focus (repeat (first | exact trivial | assumption | exact OkA.z (by kernel_rfl) (by kernel_rfl) | refine ⟨rfl, ?_⟩ | refine ⟨?_, ?_⟩)))) | (refine hAl tab_ok rfl ?_ hH rfl ?_; (focus (first | exact wN rfl | exact rfl))) | (refine hBd tab_ok rfl ?_ rfl rfl rfl hH ?_; (focus (first | exact wN rfl | exact rfl)); refine ⟨?_, ?_, ?_⟩; rotate_left; (focus (repeat (first | exact BR.nil | refine BR.one rfl rfl rfl ?_ | (refine BR.row rfl rfl rfl rfl ?_ ?_; (focus (repeat (first | exact trivial | assumption | exact OkA.z (by kernel_rfl) (by kernel_rfl) | refine ⟨rfl, ?_⟩ | refine ⟨?_, ?_⟩)))))))) | ((with_reducible refine callH hH ?_); refine ⟨?_, ?_, ?_⟩; rotate_left; (focus (first | (with_reducible exact R3 _))))); clear hH; (first | intro W g hH | intro W hH); ((try simp only [Act.put, pA, pB, pC]))))
    go_loopw [9] (fun sl wr => ∃ (X : List Ad) (m' k' : Nat) (b' : Bool), sl = .int .i64 (m' : Int) ∧ Hid (srP s 16 m' X (k', b') = (L, (k5, b5))) ∧ k' ≤ s.size ∧ m' + X.length ≤ 255 ∧ ((X = [] ∧ Hp w.heap.size w wr [(g, 31, true, [.one (.int .i64 (n : Int)), .many A 17, .one (.bool qe), .one (.slice none 0 0), .one (.bool qg)]), (gr, 83, true, [.one (.string s), .one (.int .i64 (k' : Int)), .one (.bool b')]), (g2, 31, true, [.many (zeroL Tryz.prog 29) 20, .one (.bool false)])]) ∨ (∃ (go cc q : Nat) (J : List Value), Grow 17 X.length cc (X.length * 17) q ∧ OkA J q ∧ Hp w.heap.size w wr [(go, 24, true, [.many (adsL X) (X.length * 17), .many J q]), (g, 31, true, [.one (.int .i64 (n : Int)), .many A 17, .one (.bool qe), .one (.slice (some ⟨go, 0, none⟩) X.length cc), .one (.bool qg)]), (gr, 83, true, [.one (.string s), .one (.int .i64 (k' : Int)), .one (.bool b')]), (g2, 31, true, [.many (zeroL Tryz.prog 29) 20, .one (.bool false)])]))) (fun sl _ => (intOf sl).toNat)
    case atStart => exact ⟨[], m, k4, b4, rfl, HL, hk4, by simpa using hm', .inl ⟨rfl, hH⟩⟩
    case round =>
      clear hH HL
      obtain ⟨X, m', k', b', rfl, HL, hk', hmX, hor⟩ := hrel
      by_cases hx : m' = 0 ∨ b' = true
      · have HE := HL.out
        rw [srP_end hx] at HE
        obtain ⟨rfl, h2⟩ := Prod.mk.inj HE
        obtain ⟨rfl, rfl⟩ := Prod.mk.inj h2
        clear HE h2 HL hT
        have hX : X.length ≤ 255 := by omega
        clear hmX
        obtain ⟨p, cc, D, hya, hDo, hH⟩ : ∃ p cc D, Hid (∀ B w0 W, Hp B w0 W D → AdsAt W p X) ∧ Hid (∀ r ∈ D, r.2.2.1 = true) ∧ Hp w.heap.size w wr ((g, 31, true, [.one (.int .i64 (n : Int)), .many A 17, .one (.bool qe), .one (.slice p X.length cc), .one (.bool qg)]) :: (gr, 83, true, [.one (.string s), .one (.int .i64 (k' : Int)), .one (.bool b')]) :: (g2, 31, true, [.many (zeroL Tryz.prog 29) 20, .one (.bool false)]) :: D) := by
          rcases hor with ⟨rfl, hH⟩ | ⟨go, cc, q, J, hG, oJ, hH⟩
          · exact ⟨none, 0, [], Lib.hid (fun _ _ _ _ => AdsAt.nil), Lib.hid (fun r hr => by simp at hr), hH⟩
          · exact ⟨some ⟨go, 0, none⟩, cc, [(go, _, true, [.many (adsL X) (X.length * 17), .many J q])], Lib.hid (fun B w0 W h => by exact adsAt_row (J := J) (by omega) (by simpa [fls] using (h.rows.mem (i := 0) rfl).1)), Lib.hid (fun r hr => by simp at hr; rw [hr]), hH.perm ((List.Perm.swap _ _ _).trans (((List.Perm.swap _ _ _).trans ((List.Perm.swap _ _ _).cons _)).cons _))⟩
        clear hor
        cases b' with
        | true =>
          have hR := HRES.out
          rw [if_pos rfl] at hR
          subst hR
          clear HRES
          have hcase : (m' = 0) ∨ ∃ m2, m' = m2 + 1 := by cases m' <;> simp
          rcases hcase with rfl | ⟨m2, rfl⟩
          · clear hx
            go_wp2_with (first | ((go_at_call 52; refine hBad 1 hH rfl ?_; (clear hH; (first | intro W g hH | intro W hH); (try simp only [Act.put, pA, pB, pC])))) | ((first | (refine iSR tab_ok rfl ?_ rfl hH ?_; (focus (first | exact wN rfl | exact rfl)); refine ⟨_, _, _, _, rfl, rfl, rfl, rfl, rfl, ?_, ?_⟩; (focus (repeat (first | exact trivial | assumption | exact OkA.z (by kernel_rfl) (by kernel_rfl) | refine ⟨rfl, ?_⟩ | refine ⟨?_, ?_⟩)))) | (refine hBd tab_ok rfl ?_ rfl rfl rfl hH ?_; (focus (first | exact wN rfl | exact rfl)); refine ⟨?_, ?_, ?_⟩; rotate_left; (focus (repeat (first | exact BR.nil | refine BR.one rfl rfl rfl ?_ | (refine BR.row rfl rfl rfl rfl ?_ ?_; (focus (repeat (first | exact trivial | assumption | exact OkA.z (by kernel_rfl) (by kernel_rfl) | refine ⟨rfl, ?_⟩ | refine ⟨?_, ?_⟩))))))))); clear hH; (first | intro W g hH | intro W hH); ((try simp only [Act.put, pA, pB, pC]))))
            refine retC3 Tryz.results25 tab_ok 2 rfl rfl hH rfl rfl rfl rfl ?_
            exact RdCP.mk (p := none) (cc := 0) (D := []) (by rw [zchS]; rfl) ⟨hH.nil, by simp⟩ (fun _ _ _ _ => AdsAt.nil)
          · clear hx
            have d1 : decide ((0 : Int) < (m2 : Int) + 1) = true := decide_eq_true (by omega)
            have d2 : decide (0 < m2 + 1) = true := decide_eq_true (by omega)
            go_wp2_with (first | ((go_at_call 52; refine hBad 1 hH rfl ?_; (clear hH; (first | intro W g hH | intro W hH); (try simp only [Act.put, pA, pB, pC])))) | ((first | (refine iSR tab_ok rfl ?_ rfl hH ?_; (focus (first | exact wN rfl | exact rfl)); refine ⟨_, _, _, _, rfl, rfl, rfl, rfl, rfl, ?_, ?_⟩; (focus (repeat (first | exact trivial | assumption | exact OkA.z (by kernel_rfl) (by kernel_rfl) | refine ⟨rfl, ?_⟩ | refine ⟨?_, ?_⟩)))) | (refine hBd tab_ok rfl ?_ rfl rfl rfl hH ?_; (focus (first | exact wN rfl | exact rfl)); refine ⟨?_, ?_, ?_⟩; rotate_left; (focus (repeat (first | exact BR.nil | refine BR.one rfl rfl rfl ?_ | (refine BR.row rfl rfl rfl rfl ?_ ?_; (focus (repeat (first | exact trivial | assumption | exact OkA.z (by kernel_rfl) (by kernel_rfl) | refine ⟨rfl, ?_⟩ | refine ⟨?_, ?_⟩))))))))); clear hH; (first | intro W g hH | intro W hH); ((try simp only [Act.put, pA, pB, pC]))))
            refine retC3 Tryz.results25 tab_ok 2 rfl rfl hH rfl rfl rfl rfl ?_
            exact RdCP.mk (p := none) (cc := 0) (D := []) (by rw [zchS]; rfl) ⟨hH.nil, by simp⟩ (fun _ _ _ _ => AdsAt.nil)
        | false =>
          have h0 : m' = 0 := by rcases hx with h | h; exact h; simp at h
          subst h0
          clear hx
          have hR := HRES.out
          rw [if_neg (by simp)] at hR
          have FG := Lib.hid (show ∀ (W : World) (p : Option Addr) (c : Nat), AdsAt W p X → Gives Tryz.prog 17 #[.agg (fls [.one (.int .i64 (n : Int)), .many A 17, .one (.bool qe), .one (.slice p X.length c), .one (.bool qg)]).toArray] W (.bool (goodC ⟨⟨(n : Int), a, qe, X⟩, qg⟩)) from fun W p c h => by rw [HA.out]; exact dgood_any (x := ⟨⟨(n : Int), a, qe, X⟩, qg⟩) h)
          have FW := Lib.hid (show goodC ⟨⟨(n : Int), a, qe, X⟩, qg⟩ = true → ∀ (W : World) (p : Option Addr) (c : Nat), AdsAt W p X → Gives Tryz.prog 18 #[.agg (fls [.one (.int .i64 (n : Int)), .many A 17, .one (.bool qe), .one (.slice p X.length c), .one (.bool qg)]).toArray] W (.string (writeC ⟨⟨(n : Int), a, qe, X⟩, qg⟩)) from fun hg W p c h => by rw [HA.out]; exact dwrite_any (x := ⟨⟨(n : Int), a, qe, X⟩, qg⟩) h (goodC_vlan hg) (goodC_len hg))
          obtain ⟨ch, hch⟩ : ∃ ch, (⟨⟨(n : Int), a, qe, X⟩, qg⟩ : Ch) = ch := ⟨_, rfl⟩
          have HCH := Lib.hid hch
          rw [hch] at FG FW hR
          clear hch HRES
          cases hgd : goodC ch
          · rw [hgd] at FG hR
            rw [Bool.false_and, if_neg (by simp)] at hR
            subst hR
            clear FW hgd
            go_wp2_with (first | ((go_at_call 52; refine hBad 1 hH rfl ?_; (clear hH; (first | intro W g hH | intro W hH); (try simp only [Act.put, pA, pB, pC])))) | ((first | (refine iL tab_ok rfl ?_ rfl hH ?_; (focus (first | exact wN rfl | exact rfl)); refine ⟨_, _, rfl, rfl, ?_⟩) | (refine iSR tab_ok rfl ?_ rfl hH ?_; (focus (first | exact wN rfl | exact rfl)); refine ⟨_, _, _, _, rfl, rfl, rfl, rfl, rfl, ?_, ?_⟩; (focus (repeat (first | exact trivial | assumption | exact OkA.z (by kernel_rfl) (by kernel_rfl) | refine ⟨rfl, ?_⟩ | refine ⟨?_, ?_⟩)))) | (refine hBd tab_ok rfl ?_ rfl rfl rfl hH ?_; (focus (first | exact wN rfl | exact rfl)); refine ⟨?_, ?_, ?_⟩; rotate_left; (focus (repeat (first | exact BR.nil | refine BR.one rfl rfl rfl ?_ | (refine BR.row rfl rfl rfl rfl ?_ ?_; (focus (repeat (first | exact trivial | assumption | exact OkA.z (by kernel_rfl) (by kernel_rfl) | refine ⟨rfl, ?_⟩ | refine ⟨?_, ?_⟩)))))))) | ((with_reducible refine callH hH ?_); refine ⟨?_, ?_, ?_⟩; rotate_left; (focus (first | (exact FG.out _ _ _ (hya.out _ _ _ (hH.sub (SubH.drop (SubH.drop (SubH.drop SubH.refl)))))))))); clear hH; (first | intro W g hH | intro W hH); ((try simp only [Act.put, pA, pB, pC]))))
            refine retC3 Tryz.results25 tab_ok 2 rfl rfl hH rfl rfl rfl rfl ?_
            exact RdCP.mk (p := none) (cc := 0) (D := []) (by rw [zchS]; rfl) ⟨hH.nil, by simp⟩ (fun _ _ _ _ => AdsAt.nil)
          · have FW1 := Lib.hid (FW.out hgd)
            rw [hgd] at FG hR
            rw [Bool.true_and] at hR
            clear FW hgd
            by_cases hwr : writeC ch = s.extract 0 k'
            · rw [if_pos (by simpa using hwr)] at hR
              rw [hwr] at FW1
              subst hR
              clear hwr
              go_wp2_with (first | ((go_at_call 52; refine hBad 1 hH rfl ?_; (clear hH; (first | intro W g hH | intro W hH); (try simp only [Act.put, pA, pB, pC])))) | ((go_at_call 53; refine hAt 1 hH rfl ?_; (clear hH; (first | intro W g hH | intro W hH); (try simp only [Act.put, pA, pB, pC])))) | ((first | (refine iL tab_ok rfl ?_ rfl hH ?_; (focus (first | exact wN rfl | exact rfl)); refine ⟨_, _, rfl, rfl, ?_⟩) | ((with_reducible refine callH hH ?_); refine ⟨?_, ?_, ?_⟩; rotate_left; (focus (first | (exact FG.out _ _ _ (hya.out _ _ _ (hH.sub (SubH.drop (SubH.drop (SubH.drop SubH.refl)))))) | (exact FW1.out _ _ _ (hya.out _ _ _ (hH.sub (SubH.drop (SubH.drop (SubH.drop SubH.refl)))))))))); clear hH; (first | intro W g hH | intro W hH); ((try simp only [Act.put, pA, pB, pC]))))
              ((with_reducible refine regKN [] hH (SubH.keep (SubH.keep SubH.nil)) (by kernel_rfl) ?_); (clear hH; intro W hH); (refine hk_pures (fuel := 5) (pk 1 rfl (PickR.nil)) (by kernel_rfl) (by kernel_rfl) (fun _ _ _ _ _ h => h) ?_; (repeat (go_big_quiet_step (fail))); refine hk_nil ?_); (refine hk_loads (fuel := 4) (pk 0 rfl (PickR.nil)) (by kernel_rfl) (by kernel_rfl) (fun _ _ _ _ _ h => h) hH ?_ ?_; (focus (exact SubI.h)); intro hne; (repeat (first | (go_big_quiet_want; (first | (refine qiL tab_ok rfl rfl ?_; refine ⟨_, _, rfl, rfl, ?_⟩)); (try simp only [Act.put, pA, pB, pC]); go_big_quiet_on) | go_big_quiet_step (fail))); refine hk_nil ?_; clear hne); (refine hk_one (fuel := 3) 2 rfl (by kernel_rfl) ?_; go_wp2_with (first | ((go_at_call 53; refine hAt 1 hH rfl ?_; (clear hH; (first | intro W g hH | intro W hH); (try simp only [Act.put, pA, pB, pC]))))); refine hkQ_normal hH ?_ ?_; (focus (exact SubI.h)); (try simp only [Act.put, pA, pB, pC])); (refine hk_one (fuel := 2) 3 rfl (by kernel_rfl) ?_; go_wp2_with (first | ((first | (refine iSR tab_ok rfl ?_ rfl hH ?_; (focus (first | exact wN rfl | exact rfl)); refine ⟨_, _, _, _, rfl, rfl, rfl, rfl, rfl, ?_, ?_⟩; (focus (repeat (first | exact trivial | assumption | exact OkA.z (by kernel_rfl) (by kernel_rfl) | refine ⟨rfl, ?_⟩ | refine ⟨?_, ?_⟩))))); clear hH; (first | intro W g hH | intro W hH); ((try simp only [Act.put, pA, pB, pC])))); refine hkQ_normal hH ?_ ?_; (focus (exact SubI.h)); (try simp only [Act.put, pA, pB, pC])); (refine hk_pures (fuel := 0) (pk 4 rfl (pk 5 rfl (PickR.nil))) (by kernel_rfl) (by kernel_rfl) (fun _ _ _ _ _ h => h) ?_; (repeat (go_big_quiet_step (fail))); refine hk_nil ?_); refine hk_endN (by kernel_rfl) ?_)
              go_wp2_with (fail)
              refine retC3 Tryz.results25 tab_ok 2 rfl rfl hH rfl rfl rfl rfl ?_
              exact RdCP.mk (p := p) (cc := cc) (D := D) (by rw [← HCH.out]; unfold chS; simp only; rw [← HA.out]; rfl) ⟨hH.sub (SubH.drop (SubH.drop (SubH.drop SubH.refl))), hDo.out⟩ (by rw [← HCH.out]; exact hya.out)
            · rw [if_neg (by simpa using hwr)] at hR
              subst hR
              generalize writeC ch = Wr at *
              have hne := strNeD hwr
              clear hwr
              go_wp2_with (first | ((go_at_call 52; refine hBad 1 hH rfl ?_; (clear hH; (first | intro W g hH | intro W hH); (try simp only [Act.put, pA, pB, pC])))) | ((go_at_call 53; refine hAt 1 hH rfl ?_; (clear hH; (first | intro W g hH | intro W hH); (try simp only [Act.put, pA, pB, pC])))) | ((first | (refine iL tab_ok rfl ?_ rfl hH ?_; (focus (first | exact wN rfl | exact rfl)); refine ⟨_, _, rfl, rfl, ?_⟩) | (refine iSR tab_ok rfl ?_ rfl hH ?_; (focus (first | exact wN rfl | exact rfl)); refine ⟨_, _, _, _, rfl, rfl, rfl, rfl, rfl, ?_, ?_⟩; (focus (repeat (first | exact trivial | assumption | exact OkA.z (by kernel_rfl) (by kernel_rfl) | refine ⟨rfl, ?_⟩ | refine ⟨?_, ?_⟩)))) | (refine hBd tab_ok rfl ?_ rfl rfl rfl hH ?_; (focus (first | exact wN rfl | exact rfl)); refine ⟨?_, ?_, ?_⟩; rotate_left; (focus (repeat (first | exact BR.nil | refine BR.one rfl rfl rfl ?_ | (refine BR.row rfl rfl rfl rfl ?_ ?_; (focus (repeat (first | exact trivial | assumption | exact OkA.z (by kernel_rfl) (by kernel_rfl) | refine ⟨rfl, ?_⟩ | refine ⟨?_, ?_⟩)))))))) | ((with_reducible refine callH hH ?_); refine ⟨?_, ?_, ?_⟩; rotate_left; (focus (first | (exact FG.out _ _ _ (hya.out _ _ _ (hH.sub (SubH.drop (SubH.drop (SubH.drop SubH.refl)))))) | (exact FW1.out _ _ _ (hya.out _ _ _ (hH.sub (SubH.drop (SubH.drop (SubH.drop SubH.refl)))))))))); clear hH; (first | intro W g hH | intro W hH); ((try simp only [Act.put, pA, pB, pC]))))
              refine retC3 Tryz.results25 tab_ok 2 rfl rfl hH rfl rfl rfl rfl ?_
              exact RdCP.mk (p := none) (cc := 0) (D := []) (by rw [zchS]; rfl) ⟨hH.nil, by simp⟩ (fun _ _ _ _ => AdsAt.nil)
      · obtain ⟨m', rfl⟩ : ∃ m2, m' = m2 + 1 := ⟨m' - 1, by omega⟩
        have hb' : b' = false := by simpa using fun h => hx (.inr h)
        subst hb'
        clear hx
        obtain ⟨S, y, k2', b2', c2, q3, q3', hk2', T, R⟩ := hT.out k' hk'
        have HL2 := Lib.hid (show srP s 16 m' (X ++ [y]) (k2', b2') = (L, (k5, b5)) by have := HL.out; rw [srP_more, q3, q3'] at this; exact this)
        clear HL q3 q3' hT
        replace T : TakR w.heap.size w s 16 k' false S k2' b2' := T
        replace T := Lib.hid T
        have hSnoc := Lib.hid (adsL_snoc X y)
        have oY := adL_ok y
        obtain ⟨Y, hY⟩ : ∃ Y, Y = adL y := ⟨_, rfl⟩
        rw [← hY] at R oY hSnoc
        have HY := Lib.hid hY
        clear hY
        have d1 : decide ((0 : Int) < (m' : Int) + 1) = true := decide_eq_true (by omega)
        have d2 : decide (0 < m' + 1) = true := decide_eq_true (by omega)
        have u5 : wrap64 (((m' : Int) + 1) - 1) = (m' : Int) := by unfold wrap64; omega
        rcases hor with ⟨rfl, hH⟩ | ⟨go, cc, q, J, hG, oJ, hH⟩
        · go_wp2_with (first | ((go_at_call 51; refine T.out _ _ _ _ _ _ 1 ?_ hH rfl rfl ?_; (focus rfl); (clear hH; (first | intro W g hH | intro W hH); (try simp only [Act.put, pA, pB, pC])))) | ((go_at_call 52; refine hBad 1 hH rfl ?_; (clear hH; (first | intro W g hH | intro W hH); (try simp only [Act.put, pA, pB, pC])))) | ((refine hSl tab_ok rfl ?_ rfl tabs_ok rfl rfl rfl rfl rfl hH ?_; (focus (first | exact wN rfl | exact rfl)); refine ⟨?_, ?_, ?_⟩; rotate_left; (focus (repeat (first | exact BR.nil | refine BR.one rfl rfl rfl ?_ | (refine BR.row rfl rfl rfl rfl ?_ ?_; (focus (repeat (first | exact trivial | assumption | exact OkA.z (by kernel_rfl) (by kernel_rfl) | refine ⟨rfl, ?_⟩ | refine ⟨?_, ?_⟩))))))); clear hH; intro W g hH; (try simp only [Act.put, pA, pB, pC]))) | (((first | (refine hApp0 0 tab_ok tabs_ok rfl rfl rfl rfl rfl rfl rfl hH rfl rfl rfl ?_; refine ⟨?_, ?_, ?_⟩; (focus (first | omega | (simp; omega))); (focus (first | omega | (simp; omega))))); clear hH; intro W g c p q J hG hL hJ hH; (try simp only [putH, fls, List.append_nil] at hH hL); (try simp only [Act.put, pA, pB, pC]))) | ((first | (refine iL tab_ok rfl ?_ rfl hH ?_; (focus (first | exact wN rfl | exact rfl)); refine ⟨_, _, rfl, rfl, ?_⟩) | (refine iS1 tab_ok rfl ?_ rfl hH ?_; (focus (first | exact wN rfl | exact rfl)); refine ⟨_, _, _, _, rfl, rfl, rfl, rfl, rfl, ?_⟩) | (refine iSR tab_ok rfl ?_ rfl hH ?_; (focus (first | exact wN rfl | exact rfl)); refine ⟨_, _, _, _, rfl, rfl, rfl, rfl, rfl, ?_, ?_⟩; (focus (repeat (first | exact trivial | assumption | exact OkA.z (by kernel_rfl) (by kernel_rfl) | refine ⟨rfl, ?_⟩ | refine ⟨?_, ?_⟩)))) | (refine hAl tab_ok rfl ?_ hH rfl ?_; (focus (first | exact wN rfl | exact rfl))) | ((with_reducible refine callH hH ?_); refine ⟨?_, ?_, ?_⟩; rotate_left; (focus (first | (with_reducible exact R _))))); clear hH; (first | intro W g hH | intro W hH); ((try simp only [Act.put, pA, pB, pC]))))
          have hp := hG.hp
          have hq := hG.hq
          have hle := hG.le
          have hmo := hG.most
          refine ⟨⟨[y], m', k2', b2', by first | rfl | simp, HL2, hk2', by simp at hmX ⊢; omega, .inr ⟨g, c, q, J, ⟨rfl, by rw [← hq, hp]; rfl, hle, hmo⟩, hJ, ?_⟩⟩, by simp only [intOf]; omega⟩
          have e2 : adsL [y] = Y := by rw [HY.out]; simp [adsL]
          have e1 : [y].length * 17 = p := by rw [hp]; simp
          rw [e2, e1]
          exact hH.sub (SubH.keep (SubH.drop (SubH.drop SubH.refl)))
        · go_wp2_with (first | ((go_at_call 51; refine T.out _ _ _ _ _ _ 2 ?_ hH rfl rfl ?_; (focus rfl); (clear hH; (first | intro W g hH | intro W hH); (try simp only [Act.put, pA, pB, pC])))) | ((go_at_call 52; refine hBad 2 hH rfl ?_; (clear hH; (first | intro W g hH | intro W hH); (try simp only [Act.put, pA, pB, pC])))) | ((refine hSl tab_ok rfl ?_ rfl tabs_ok rfl rfl rfl rfl rfl hH ?_; (focus (first | exact wN rfl | exact rfl)); refine ⟨?_, ?_, ?_⟩; rotate_left; (focus (repeat (first | exact BR.nil | refine BR.one rfl rfl rfl ?_ | (refine BR.row rfl rfl rfl rfl ?_ ?_; (focus (repeat (first | exact trivial | assumption | exact OkA.z (by kernel_rfl) (by kernel_rfl) | refine ⟨rfl, ?_⟩ | refine ⟨?_, ?_⟩))))))); clear hH; intro W g hH; (try simp only [Act.put, pA, pB, pC]))) | (((first | (refine hApp 2 0 tab_ok tabs_ok rfl rfl rfl rfl rfl rfl rfl hH rfl rfl rfl rfl ?_; refine ⟨?_, ?_, ?_⟩; (focus assumption); (focus (first | omega | (simp; omega))))); clear hH; intro W g c p q J hG hL hJ hH; (try simp only [putH, fls, List.append_nil] at hH hL); (try simp only [Act.put, pA, pB, pC]))) | ((first | (refine iL tab_ok rfl ?_ rfl hH ?_; (focus (first | exact wN rfl | exact rfl)); refine ⟨_, _, rfl, rfl, ?_⟩) | (refine iS1 tab_ok rfl ?_ rfl hH ?_; (focus (first | exact wN rfl | exact rfl)); refine ⟨_, _, _, _, rfl, rfl, rfl, rfl, rfl, ?_⟩) | (refine iSR tab_ok rfl ?_ rfl hH ?_; (focus (first | exact wN rfl | exact rfl)); refine ⟨_, _, _, _, rfl, rfl, rfl, rfl, rfl, ?_, ?_⟩; (focus (repeat (first | exact trivial | assumption | exact OkA.z (by kernel_rfl) (by kernel_rfl) | refine ⟨rfl, ?_⟩ | refine ⟨?_, ?_⟩)))) | (refine hAl tab_ok rfl ?_ hH rfl ?_; (focus (first | exact wN rfl | exact rfl))) | ((with_reducible refine callH hH ?_); refine ⟨?_, ?_, ?_⟩; rotate_left; (focus (first | (with_reducible exact R _))))); clear hH; (first | intro W g hH | intro W hH); ((try simp only [Act.put, pA, pB, pC]))))
          have hp := hG.hp
          have hq := hG.hq
          have hle := hG.le
          have hmo := hG.most
          have e1 : (X ++ [y]).length = X.length + 1 := by simp
          refine ⟨⟨X ++ [y], m', k2', b2', by first | rfl | simp, HL2, hk2', by rw [e1]; omega, .inr ⟨g, c, q, J, by rw [e1]; exact ⟨rfl, by rw [← hq, hp], hle, hmo⟩, hJ, ?_⟩⟩, by simp only [intOf]; omega⟩
          have e2 : (X ++ [y]).length * 17 = p := by rw [hp]; simp
          rw [e2, hSnoc.out, e1]
          exact hH.sub (SubH.drop (SubH.drop SubH.refl))
end
end Go.Proofs.YtjegjgdihpihoaaGreatDoor
