/-
  Joined texts: Ps.
-/
import Derived.Test.YtdnehjhijmeihaaGreatQMem
import Derived.Test.YtdnehjhijmeihaaGreatQKit
import Derived.Deep.MidRow
namespace Go.Proofs.YtdnehjhijmeihaaGreat
open Go.ChangeShapes Go.WideShapes Go.ChangeAt Go.RowKit
set_option linter.unusedVariables false
set_option linter.unusedSimpArgs false
def AdrCs (A : Array Value) (v : Bool) (l : List UInt8) : Prop := A.toList = .bool v :: l.map byteV ∧ l.length = 16
section
variable {A : Array Value} {v : Bool} {l : List UInt8}
theorem AdrCs.size (h : AdrCs A v l) : A.size = 17 := by rw [← Array.length_toList, h.1]; simp [h.2]
theorem AdrCs.at0 (h : AdrCs A v l) : A[0]? = some (.bool v) := by rw [← Array.getElem?_toList, h.1]; rfl
theorem AdrCs.atS (h : AdrCs A v l) {i : Nat} {b : UInt8} (hb : l[i]? = some b) : A[1 + i]? = some (byteV b) := by
  rw [← Array.getElem?_toList, h.1, Nat.add_comm, List.getElem?_cons_succ, List.getElem?_map, hb]; rfl
theorem AdrCs.str (h : AdrCs A v l) {w : World} {g k c : Nat} {t : TypeId} (hr : Row w g t A) (hk : k ≤ 16) :
    (convert 114 9 (.slice (some ⟨g, 1, none⟩) k c)).run Tryz.prog w = .ok (.string (str (l.take k))) w := by
  refine run_str_of Tryz.underlying114 Tryz.underlying5 Tryz.underlying9 (by rw [List.length_take, h.2]; omega) (fun i b hb => ?_)
  rw [hr.cell]
  rw [List.getElem?_take] at hb
  split at hb
  · exact h.atS hb
  · cases hb
end
def pseudoB (six : Bool) (a b : List UInt8) (p n : Nat) : ByteArray :=
  if six then str a ++ str b ++ str (putL n 4) ++ str (putL 0 3) ++ str (putL p 1) else str (a.take 4) ++ str (b.take 4) ++ str (putL 0 1) ++ str (putL p 1) ++ str (putL n 2)
theorem pseudo_any {A B : Array Value} {va vb : Bool} {la lb : List UInt8} {pi ni : Int} {p n : Nat} {w : World} (hA : AdrCs A va la) (hB : AdrCs B vb lb) (hp : IntKind.u64.wrap pi = (p : Int)) (hp2 : p < 18446744073709551616) (hn : IntKind.u64.wrap ni = (n : Int)) (hn2 : n < 18446744073709551616) :
    Gives Tryz.prog 175 #[.agg A, .agg B, .int .i64 pi, .int .i64 ni] w (.string (pseudoB (va || vb) la lb p n)) := by
  refine Gives.of ?_
  have hput : ∀ (m k : Nat) w, m < 18446744073709551616 → k ≤ 8 → Gives Tryz.prog 140 #[.int .u64 (m : Int), .int .i64 (k : Int)] w (.string (str (putL m k))) := fun m k w hm hk => by
    have h := Put_any (n := m) (wide := (k : Int)) (w := w) hm
    rwa [show wn (k : Int) 8 = k by unfold wn; rw [within_in (by omega) (by omega)]; omega] at h
  have hp4 : ∀ w, Gives Tryz.prog 140 #[.int .u64 (n : Int), .int .i64 4] w (.string (str (putL n 4))) := fun w => hput n 4 w hn2 (by omega)
  have hp02 : ∀ w, Gives Tryz.prog 140 #[.int .u64 (n : Int), .int .i64 2] w (.string (str (putL n 2))) := fun w => hput n 2 w hn2 (by omega)
  have hp3 : ∀ w, Gives Tryz.prog 140 #[.int .u64 0, .int .i64 3] w (.string (str (putL 0 3))) := fun w => hput 0 3 w (by omega) (by omega)
  have hp1 : ∀ w, Gives Tryz.prog 140 #[.int .u64 (p : Int), .int .i64 1] w (.string (str (putL p 1))) := fun w => hput p 1 w hp2 (by omega)
  have hp01 : ∀ w, Gives Tryz.prog 140 #[.int .u64 0, .int .i64 1] w (.string (str (putL 0 1))) := fun w => hput 0 1 w (by omega) (by omega)
  have a0 := hA.at0
  have b0 := hB.at0
  have l1 := hA.2
  have l2 := hB.2
  have m1 : (putL n 4).length = 4 := putL_length _ _
  have m2 : (putL n 2).length = 2 := putL_length _ _
  have m3 : (putL 0 3).length = 3 := putL_length _ _
  have m4 : (putL p 1).length = 1 := putL_length _ _
  have m5 : (putL 0 1).length = 1 := putL_length _ _
  have rA : Row ((w.alloc (.cells A 25)).alloc (.cells B 25)) w.heap.size 25 A := (Row.new _ _ _).alloc _
  have rB : Row ((w.alloc (.cells A 25)).alloc (.cells B 25)) (w.heap.size + 1) 25 B := by
    have h := Row.new (w.alloc (.cells A 25)) 25 B
    simpa using h
  have ta : la.take 16 = la := List.take_of_length_le (by omega)
  have tb : lb.take 16 = lb := List.take_of_length_le (by omega)
  have cA : ∀ (y : BW ((w.alloc (.cells A 25)).alloc (.cells B 25)).heap.size ((w.alloc (.cells A 25)).alloc (.cells B 25))),
      (convert 114 9 (.slice (some ⟨w.heap.size, 1, none⟩) 16 16)).run Tryz.prog y.w = .ok (.string (str la)) y.w := fun y => by
    have h := hA.str (k := 16) (c := 16) (rA.bw (x := y) (by simp; omega)) (by omega)
    rwa [ta] at h
  have cB : ∀ (y : BW ((w.alloc (.cells A 25)).alloc (.cells B 25)).heap.size ((w.alloc (.cells A 25)).alloc (.cells B 25))),
      (convert 114 9 (.slice (some ⟨w.heap.size + 1, 1, none⟩) 16 16)).run Tryz.prog y.w = .ok (.string (str lb)) y.w := fun y => by
    have h := hB.str (k := 16) (c := 16) (rB.bw (x := y) (by simp)) (by omega)
    rwa [tb] at h
  have cA4 : ∀ (y : BW ((w.alloc (.cells A 25)).alloc (.cells B 25)).heap.size ((w.alloc (.cells A 25)).alloc (.cells B 25))),
      (convert 114 9 (.slice (some ⟨w.heap.size, 1, none⟩) 4 16)).run Tryz.prog y.w = .ok (.string (str (la.take 4))) y.w := fun y => hA.str (rA.bw (x := y) (by simp; omega)) (by omega)
  have cB4 : ∀ (y : BW ((w.alloc (.cells A 25)).alloc (.cells B 25)).heap.size ((w.alloc (.cells A 25)).alloc (.cells B 25))),
      (convert 114 9 (.slice (some ⟨w.heap.size + 1, 1, none⟩) 4 16)).run Tryz.prog y.w = .ok (.string (str (lb.take 4))) y.w := fun y => hB.str (rB.bw (x := y) (by simp)) (by omega)
  have hz := Lib.hid hA.size
  clear ta tb rA rB hA hB hput
  cases va
  · cases vb
    · go_enter Tryz.func175, Tryz.ntmps175
      go_wp2
      ((with_reducible first | refine wp_region_bx (Nat.le_refl _) (by kernel_rfl) (by kernel_rfl) ?_ | refine wp_region_bw (by kernel_rfl) (by kernel_rfl) ?_); (repeat (go_big_quiet_step (((with_reducible apply Gives.bw (Nat.le_refl _)); first | (with_reducible exact hp01 _) | (with_reducible exact hp1 _) | (with_reducible exact hp02 _))))); refine wpQuiet_nil ?_; rintro _ ⟨x, rfl⟩)
      go_wp2
      go_ret
      exact ⟨rfl, by exact blw⟩
    · go_enter Tryz.func175, Tryz.ntmps175
      go_wp2
      ((with_reducible first | refine wp_region_bx (Nat.le_refl _) (by kernel_rfl) (by kernel_rfl) ?_ | refine wp_region_bw (by kernel_rfl) (by kernel_rfl) ?_); (repeat (go_big_quiet_step (((with_reducible apply Gives.bw (Nat.le_refl _)); first | (with_reducible exact hp3 _) | (with_reducible exact hp1 _) | (with_reducible exact hp4 _))))); refine wpQuiet_nil ?_; rintro _ ⟨x, rfl⟩)
      go_wp2
      go_ret
      exact ⟨rfl, by exact blw⟩
  · go_enter Tryz.func175, Tryz.ntmps175
    go_wp2
    ((with_reducible first | refine wp_region_bx (Nat.le_refl _) (by kernel_rfl) (by kernel_rfl) ?_ | refine wp_region_bw (by kernel_rfl) (by kernel_rfl) ?_); (repeat (go_big_quiet_step (((with_reducible apply Gives.bw (Nat.le_refl _)); first | (with_reducible exact hp3 _) | (with_reducible exact hp1 _) | (with_reducible exact hp4 _))))); refine wpQuiet_nil ?_; rintro _ ⟨x, rfl⟩)
    go_wp2
    go_ret
    exact ⟨rfl, by exact blw⟩
theorem putL_byte2 (p : Nat) (r : List UInt8) : putL (p % 256) 2 ++ r = putL 0 1 ++ (putL p 1 ++ r) := by
  have h1 : byteAt (p % 256) 1 = byteAt 0 0 := by unfold byteAt; congr 1; omega
  have h2 : byteAt (p % 256) 0 = byteAt p 0 := by apply UInt8.toNat.inj; rw [byteAt_toNat, byteAt_toNat]; omega
  simp [putL, h1, h2]
theorem putL_byte4 (p : Nat) : putL (p % 256) 4 = putL 0 3 ++ putL p 1 := by
  have h3 : byteAt (p % 256) 3 = byteAt 0 2 := by unfold byteAt; congr 1; omega
  have h2 : byteAt (p % 256) 2 = byteAt 0 1 := by unfold byteAt; congr 1; omega
  have h1 : byteAt (p % 256) 1 = byteAt 0 0 := by unfold byteAt; congr 1; omega
  have h0 : byteAt (p % 256) 0 = byteAt p 0 := by apply UInt8.toNat.inj; rw [byteAt_toNat, byteAt_toNat]; omega
  simp [putL, h1, h2, h3, h0]
set_option maxHeartbeats 2000000 in
theorem rpseudo_any {A B : Array Value} {va vb : Bool} {la lb : List UInt8} {pi ni : Int} {p n : Nat} {w : World} (hA : AdrCs A va la) (hB : AdrCs B vb lb) (hp : IntKind.u64.wrap pi = (p : Int)) (hp2 : p < 18446744073709551616) (hn : IntKind.u64.wrap ni = (n : Int)) (hn2 : n < 18446744073709551616) :
    Gives Tryz.prog 62 #[.agg A, .agg B, .int .i64 pi, .int .i64 ni] w (.string (pseudoB (va || vb) la lb p n)) := by
  refine Gives.of ?_
  have hputN : ∀ (m k : Nat) w, m < 18446744073709551616 → k ≤ 8 → Gives Tryz.prog 100 #[.int .u64 (m : Int), .int .i64 (k : Int)] w (.string (str (putL m k))) := fun m k w hm hk => by
    have h := rput_any (n := m) (wide := (k : Int)) (w := w) hm
    rwa [show wn (k : Int) 8 = k by unfold wn; rw [within_in (by omega) (by omega)]; omega] at h
  have hput : ∀ (b : UInt8) w, Gives Tryz.prog 100 #[.int .u64 (b.toNat : Int), .int .i64 1] w (.string (str [b])) := fun b w => by
    have hb := b.toNat_lt
    have h := hputN b.toNat 1 w (by omega) (by omega)
    have e : putL b.toNat 1 = [b] := by
      have : byteAt b.toNat 0 = b := by apply UInt8.toNat.inj; rw [byteAt_toNat]; omega
      simp [putL, this]
    rwa [e] at h
  have hn4 : ∀ w, Gives Tryz.prog 100 #[.int .u64 (n : Int), .int .i64 4] w (.string (str (putL n 4))) := fun w => hputN n 4 w hn2 (by omega)
  have hn2 : ∀ w, Gives Tryz.prog 100 #[.int .u64 (n : Int), .int .i64 2] w (.string (str (putL n 2))) := fun w => hputN n 2 w hn2 (by omega)
  have hq2 : ∀ w, Gives Tryz.prog 100 #[.int .u64 ((p : Int) % 256), .int .i64 2] w (.string (str (putL (p % 256) 2))) := fun w => by
    have h := hputN (p % 256) 2 w (by omega) (by omega)
    rwa [show ((p % 256 : Nat) : Int) = (p : Int) % 256 by omega] at h
  have hq4 : ∀ w, Gives Tryz.prog 100 #[.int .u64 ((p : Int) % 256), .int .i64 4] w (.string (str (putL (p % 256) 4))) := fun w => by
    have h := hputN (p % 256) 4 w (by omega) (by omega)
    rwa [show ((p % 256 : Nat) : Int) = (p : Int) % 256 by omega] at h
  have a0 := hA.at0
  have b0 := hB.at0
  have l1 := hA.2
  have l2 := hB.2
  have m1 : (putL n 4).length = 4 := putL_length _ _
  have m2 : (putL n 2).length = 2 := putL_length _ _
  have m3 : (putL (p % 256) 2).length = 2 := putL_length _ _
  have m4 : (putL (p % 256) 4).length = 4 := putL_length _ _
  have hz := Lib.hid hA.size
  clear hputN
  have hKK : ∃ K : Nat, K ≤ 16 ∧ ((va = false ∧ vb = false ∧ K = 4) ∨ (va = false ∧ vb = true ∧ K = 16) ∨ (va = true ∧ K = 16)) := by
    cases va
    · cases vb
      · exact ⟨4, by omega, .inl ⟨rfl, rfl, rfl⟩⟩
      · exact ⟨16, by omega, .inr (.inl ⟨rfl, rfl, rfl⟩)⟩
    · exact ⟨16, by omega, .inr (.inr ⟨rfl, rfl⟩)⟩
  obtain ⟨K, hK16, hKK⟩ := hKK
  rcases hKK with ⟨rfl, rfl, hK⟩ | ⟨rfl, rfl, hK⟩ | ⟨rfl, hK⟩
  all_goals have HK := Lib.hid hK
  all_goals clear hK
  all_goals (
    go_enter Tryz.func62, Tryz.ntmps62
    go_wp2
    go_loopw [9, 11] (fun s i wr => ∃ k : Nat, k ≤ K ∧ i = .int .i64 k ∧ s = .string (str (la.take k)) ∧ ∃ y : BW ((w.alloc (.cells A 25)).alloc (.cells B 25)).heap.size ((w.alloc (.cells A 25)).alloc (.cells B 25)), wr = y.w) (fun _ i _ => K - (intOf i).toNat)
    case atStart => exact ⟨0, by omega, rfl, rfl, BW.mk (Below.refl _ _), rfl⟩
    case round =>
      obtain ⟨k, hk, rfl, rfl, y, rfl⟩ := hrel
      by_cases hlt : k < K
      · have hb : la[k]? = some la[k] := List.getElem?_eq_getElem (by omega)
        have hcell := hA.atS hb
        have hts := Lib.hid (show str (la.take (k + 1)) = str (la.take k) ++ str [la[k]] by rw [str_append, List.take_add_one, hb]; rfl)
        have hlen : (la.take k).length ≤ 16 := by rw [List.length_take]; omega
        have hlt2 := hlt
        rw [HK.out] at hlt2
        clear hb
        have hb8 := la[k].toNat_lt
        generalize la[k] = b at *
        generalize la.take k = T at *
        unfold byteV at hcell
        have hA2 := Lib.hid hA
        clear hA
        go_wp2_with ((with_reducible (first | apply Gives.call_bw (Nat.le_refl _) | apply Gives.call)); (focus (first | (with_reducible exact hput _ _))); intro x; (try dsimp only [drew_heap] at x))
        exact ⟨⟨k + 1, by omega, by go_num, by rw [hts.out], _, rfl⟩, by simp [intOf]; omega⟩
      · have HE := Lib.hid (show k = K by omega)
        have hlt2 := hlt
        rw [HK.out] at hlt2
        have hA2 := Lib.hid hA
        clear hA
        generalize hTA : la.take k = TA at *
        have hlA : TA.length ≤ 16 := by rw [← hTA, List.length_take]; omega
        rw [HE.out] at hTA
        have HTA := Lib.hid hTA
        clear hTA
        go_wp2
        go_loopw [9, 12] (fun s i wr => ∃ k : Nat, k ≤ K ∧ i = .int .i64 k ∧ s = .string (str TA ++ str (lb.take k)) ∧ ∃ y : BW ((w.alloc (.cells A 25)).alloc (.cells B 25)).heap.size ((w.alloc (.cells A 25)).alloc (.cells B 25)), wr = y.w) (fun _ i _ => K - (intOf i).toNat)
        case atStart => exact ⟨0, by omega, rfl, by simp [str_append], y, rfl⟩
        case round =>
          clear y
          obtain ⟨k, hk, rfl, rfl, y, rfl⟩ := hrel
          by_cases hlt : k < K
          · have hb : lb[k]? = some lb[k] := List.getElem?_eq_getElem (by omega)
            have hcell := hB.atS hb
            have hts := Lib.hid (show str TA ++ str (lb.take (k + 1)) = str TA ++ str (lb.take k) ++ str [lb[k]] by rw [str_append, str_append, str_append, List.take_add_one, hb, List.append_assoc]; rfl)
            have hlen : (lb.take k).length ≤ 16 := by rw [List.length_take]; omega
            have hlt2 := hlt
            rw [HK.out] at hlt2
            clear hb
            have hb8 := lb[k].toNat_lt
            generalize lb[k] = b at *
            generalize lb.take k = T at *
            unfold byteV at hcell
            have hB2 := Lib.hid hB
            clear hB
            go_wp2_with ((with_reducible (first | apply Gives.call_bw (Nat.le_refl _) | apply Gives.call)); (focus (first | (with_reducible exact hput _ _))); intro x; (try dsimp only [drew_heap] at x))
            exact ⟨⟨k + 1, by omega, by go_num, by rw [hts.out], _, rfl⟩, by simp [intOf]; omega⟩
          · have HE2 := Lib.hid (show k = K by omega)
            have hlt2 := hlt
            rw [HK.out] at hlt2
            have hB2 := Lib.hid hB
            clear hB
            generalize hTB : lb.take k = TB at *
            have hlB : TB.length ≤ 16 := by rw [← hTB, List.length_take]; omega
            rw [HE2.out] at hTB
            have HTB := Lib.hid hTB
            clear hTB
            go_wp2_with ((with_reducible (first | apply Gives.call_bw (Nat.le_refl _) | apply Gives.call)); (focus (first | (with_reducible exact hq2 _) | (with_reducible exact hq4 _) | (with_reducible exact hn2 _) | (with_reducible exact hn4 _))); intro x; (try dsimp only [drew_heap] at x))
            go_ret
            refine ⟨congrArg (fun b => Ending.returned (.string b)) ?_, by exact blw⟩
            rw [← HTA.out, ← HTB.out, HK.out]
            apply data_inj
            have e1 : la.take 16 = la := List.take_of_length_le (by omega)
            have e2 : lb.take 16 = lb := List.take_of_length_le (by omega)
            try rw [e1, e2]
            simp only [pseudoB, Bool.or_false, Bool.or_true, Bool.true_or, Bool.false_eq_true, if_false, if_true, toList_append, str_toList]
            simp only [List.append_assoc]
            first | rw [putL_byte2] | rw [putL_byte4])
end Go.Proofs.YtdnehjhijmeihaaGreat
