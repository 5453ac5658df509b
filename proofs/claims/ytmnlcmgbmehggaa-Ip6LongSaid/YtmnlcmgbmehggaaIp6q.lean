/-
  Contracts of package ip6's reference: options.
-/
import Derived.Test.YtmnlcmgbmehggaaIp6o
namespace Go.Proofs.Ytmnlcmgbmehggaa
open Go.ChangeShapes Go.WideShapes Go.ChangeAt Go.RowKit
set_option linter.unusedVariables false
set_option linter.unusedSimpArgs false

theorem u8_ne {b : UInt8} {n : Nat} (h : b.toNat ≠ n) : ((b.toNat : Int) == (n : Int)) = false ∧ ((b.toNat : Int) != (n : Int)) = true := by
  constructor <;> simp <;> omega
set_option maxRecDepth 20000 in
set_option maxHeartbeats 4000000 in
theorem rOptions6_any {T : ByteArray} {w : World} (hT : T.size ≤ 100000) : Gives Try.prog 9 #[.string T] w (.tuple #[.bool (opt6s T).1, .int .i64 (opt6s T).2]) := by
  refine Gives.of ?_
  obtain ⟨R, hR⟩ : ∃ R, opt6s T = R := ⟨_, rfl⟩
  rw [hR]
  have HR := Lib.hid hR
  clear hR
  go_enter Try.func9, Try.ntmps9
  go_wp2
  go_loop [4, 5, 6] (fun i j _ => ∃ (k : Nat) (x : Bool), i = .bool x ∧ j = .int .i64 (k : Int) ∧ k ≤ T.size ∧ opt6 (T.data.toList.drop k) x = R) (fun _ j _ => T.size - (intOf j).toNat)
  case atStart => exact ⟨0, false, rfl, rfl, by omega, HR.out⟩
  case round =>
    clear HR
    obtain ⟨k, x, rfl, rfl, hk, hS⟩ := hrel
    have HS := Lib.hid hS
    clear hS
    have hl := size_toList T
    by_cases h0 : k = T.size
    · have hx := Lib.hid (show R = (x, 0) by rw [← HS.out, List.drop_of_length_le (by omega)]; exact opt6_nil x)
      have hdd : decide (k < T.size) = false := decide_eq_false (by omega)
      clear HS h0
      go_wp2
      all_goals first | (exfalso; omega) | skip
      go_ret2
      exact ⟨by rw [hx.out]; rfl, Below.refl _ _⟩
    have hlt : k < T.size := by omega
    have hd := Lib.hid (drop_split hlt)
    have hi0 : ∀ W, (Instr.index 9 (.string T) (.int .i64 (k : Int))).run Try.prog W = .ok (.int .u8 (T[k].toNat : Int)) W := fun W => run_idx Try.underlying9 T k hlt _ rfl W
    have hb8 := T[k].toNat_lt
    generalize T[k] = b at *
    by_cases hb0 : b = 0
    · subst hb0
      have hx := Lib.hid (show opt6 (T.data.toList.drop (k + 1)) x = R by rw [← HS.out, hd.out, opt6_zero])
      have hi0 : ∀ W, (Instr.index 9 (.string T) (.int .i64 (k : Int))).run Try.prog W = .ok (.int .u8 0) W := hi0
      clear HS hd
      go_wp2
      all_goals first | (exfalso; omega) | skip
      exact ⟨⟨k + 1, x, rfl, by go_num, by omega, hx.out⟩, by simp [intOf]; omega⟩
    have hn0 := (u8_ne (b := b) (n := 0) (fun e => hb0 (UInt8.toNat.inj e))).1
    have hn0 : ((b.toNat : Int) == 0) = false := hn0
    by_cases h1 : k + 1 = T.size
    · have hx := Lib.hid (show R = (false, 2) by
        rw [← HS.out, hd.out, List.drop_of_length_le (by omega)]; exact opt6_short hb0 x)
      have h1' : ((k : Int) + 1 == (T.size : Int)) = true := by simp; omega
      clear HS hd h1
      go_wp2
      all_goals first | (exfalso; omega) | skip
      go_ret2
      exact ⟨by rw [hx.out]; rfl, Below.refl _ _⟩
    have hlt1 : k + 1 < T.size := by omega
    have hd1 := Lib.hid (drop_split hlt1)
    have hi1 : ∀ W, (Instr.index 9 (.string T) (.int .i64 ((k : Int) + 1))).run Try.prog W = .ok (.int .u8 (T[k + 1].toNat : Int)) W := fun W => run_idx Try.underlying9 T (k + 1) hlt1 _ (by omega) W
    have hm8 := T[k + 1].toNat_lt
    generalize T[k + 1] = n at *
    have hrl : (T.data.toList.drop (k + 1 + 1)).length = T.size - (k + 2) := by rw [List.length_drop, hl]
    have h1' : ((k : Int) + 1 == (T.size : Int)) = false := by simp; omega
    by_cases h2 : T.size < k + 2 + n.toNat
    · have hx := Lib.hid (show R = (false, 2) by
        rw [← HS.out, hd.out, hd1.out]; exact opt6_form hb0 (by omega) x)
      have h2' : decide ((T.size : Int) - (k : Int) - 2 < (n.toNat : Int)) = true := decide_eq_true (by omega)
      clear HS hd hd1 h1 hrl
      go_wp2
      all_goals first | (exfalso; omega) | skip
      go_ret2
      exact ⟨by rw [hx.out]; rfl, Below.refl _ _⟩
    have h2' : decide ((T.size : Int) - (k : Int) - 2 < (n.toNat : Int)) = false := decide_eq_false (by omega)
    by_cases h3 : b ≠ 1 ∧ b ≠ 5 ∧ 63 < b.toNat
    · have hx := Lib.hid (show R = (false, 5) by
        rw [← HS.out, hd.out, hd1.out]; exact opt6_kind hb0 (by omega) h3 x)
      have hn5 : ((b.toNat : Int) != 5) = true := (u8_ne (b := b) (n := 5) (fun e => h3.2.1 (UInt8.toNat.inj e))).2
      have hn1 : ((b.toNat : Int) != 1) = true := (u8_ne (b := b) (n := 1) (fun e => h3.1 (UInt8.toNat.inj e))).2
      have hq : 63 < b.toNat := h3.2.2
      have hq' : decide (63 < (b.toNat : Int)) = true := decide_eq_true (by omega)
      clear HS hd hd1 h3 h1 hrl
      go_wp2
      all_goals first | (exfalso; omega) | skip
      go_ret2
      exact ⟨by rw [hx.out]; rfl, Below.refl _ _⟩
    have hx := Lib.hid (show opt6 (T.data.toList.drop (k + 2 + n.toNat)) (x || (b == 5 && (T.data.toList.drop (k + 2)).take n.toNat == [0, 0])) = R by
      rw [← HS.out, hd.out, hd1.out, opt6_next hb0 (by omega) h3, List.drop_drop])
    have h2k : k + 2 + n.toNat ≤ T.size := by omega
    clear HS hd hd1 h1 hrl h2
    by_cases h5 : b = 5
    · subst h5
      have hi0 : ∀ W, (Instr.index 9 (.string T) (.int .i64 (k : Int))).run Try.prog W = .ok (.int .u8 5) W := hi0
      clear hn0 h3
      by_cases hn2 : n = 2
      · subst hn2
        have h2k' : k + 2 + 2 ≤ T.size := h2k
        have e0 := Lib.hid (drop_split (s := T) (k := k + 2) (by omega))
        have e1 := Lib.hid (drop_split (s := T) (k := k + 2 + 1) (by omega))
        have hi1 : ∀ W, (Instr.index 9 (.string T) (.int .i64 ((k : Int) + 1))).run Try.prog W = .ok (.int .u8 2) W := hi1
        have hi2 : ∀ W, (Instr.index 9 (.string T) (.int .i64 ((k : Int) + 2))).run Try.prog W = .ok (.int .u8 (T[k + 2].toNat : Int)) W := fun W => run_idx Try.underlying9 T (k + 2) (by omega) _ (by omega) W
        have hi3 : ∀ W, (Instr.index 9 (.string T) (.int .i64 ((k : Int) + 3))).run Try.prog W = .ok (.int .u8 (T[k + 2 + 1].toNat : Int)) W := fun W => run_idx Try.underlying9 T (k + 2 + 1) (by omega) _ (by omega) W
        have c8 := T[k + 2].toNat_lt
        have d8 := T[k + 2 + 1].toNat_lt
        generalize T[k + 2] = c at *
        generalize T[k + 2 + 1] = d at *
        have hE : (T.data.toList.drop (k + 2)).take (UInt8.toNat 2) = [c, d] := by rw [e0.out, e1.out]; rfl
        have hx := Lib.hid (show opt6 (T.data.toList.drop (k + 2 + 2)) (x || decide (c = 0 ∧ d = 0)) = R by
          have h := hx.out
          rw [hE] at h
          rw [← h]
          congr 1
          by_cases hc : c = 0 <;> by_cases hd : d = 0 <;> simp [hc, hd])
        clear hE e0 e1
        by_cases hc : c = 0
        · subst hc
          have hi2 : ∀ W, (Instr.index 9 (.string T) (.int .i64 ((k : Int) + 2))).run Try.prog W = .ok (.int .u8 0) W := hi2
          by_cases hdd : d = 0
          · subst hdd
            have hi3 : ∀ W, (Instr.index 9 (.string T) (.int .i64 ((k : Int) + 3))).run Try.prog W = .ok (.int .u8 0) W := hi3
            go_wp2
            all_goals first | (exfalso; omega) | skip
            exact ⟨⟨k + 2 + 2, true, rfl, by go_num, by omega, by have h := hx.out; simpa using h⟩, by simp [intOf]; omega⟩
          · have hd0 : ((d.toNat : Int) == 0) = false := (u8_ne (b := d) (n := 0) (fun e => hdd (UInt8.toNat.inj e))).1
            have hx := Lib.hid (show opt6 (T.data.toList.drop (k + 2 + 2)) x = R by have h := hx.out; simpa [hdd] using h)
            clear hdd
            go_wp2
            all_goals first | (exfalso; omega) | skip
            exact ⟨⟨k + 2 + 2, x, rfl, by go_num, by omega, hx.out⟩, by simp [intOf]; omega⟩
        · have hc0 : ((c.toNat : Int) == 0) = false := (u8_ne (b := c) (n := 0) (fun e => hc (UInt8.toNat.inj e))).1
          have hx := Lib.hid (show opt6 (T.data.toList.drop (k + 2 + 2)) x = R by have h := hx.out; simpa [hc] using h)
          clear hc
          go_wp2
          all_goals first | (exfalso; omega) | skip
          exact ⟨⟨k + 2 + 2, x, rfl, by go_num, by omega, hx.out⟩, by simp [intOf]; omega⟩
      · have hnn : n.toNat ≠ 2 := fun e => hn2 (UInt8.toNat.inj e)
        have hn2' : ((n.toNat : Int) == 2) = false := (u8_ne (b := n) (n := 2) hnn).1
        have hx := Lib.hid (show opt6 (T.data.toList.drop (k + 2 + n.toNat)) x = R by
          have h := hx.out
          have hE : ((T.data.toList.drop (k + 2)).take n.toNat == [0, 0]) = false := by
            rw [beq_eq_false_iff_ne]
            intro e
            have := congrArg List.length e
            rw [List.length_take, List.length_drop, hl] at this
            simp at this
            omega
          rw [hE] at h
          simpa using h)
        clear hn2
        go_wp2
        all_goals first | (exfalso; omega) | skip
        exact ⟨⟨k + 2 + n.toNat, x, rfl, by go_num, by omega, hx.out⟩, by simp [intOf]; omega⟩
    · have hn5 := u8_ne (b := b) (n := 5) (fun e => h5 (UInt8.toNat.inj e))
      have hn5a : ((b.toNat : Int) == 5) = false := hn5.1
      have hn5b : ((b.toNat : Int) != 5) = true := hn5.2
      have hx5 := Lib.hid (show opt6 (T.data.toList.drop (k + 2 + n.toNat)) x = R by
        have h := hx.out
        rw [show (b == 5) = false by simpa using h5] at h
        simpa using h)
      clear hn5 hx
      by_cases hb1 : b = 1
      · subst hb1
        have hi0 : ∀ W, (Instr.index 9 (.string T) (.int .i64 (k : Int))).run Try.prog W = .ok (.int .u8 1) W := hi0
        clear h3 h5 hn5a hn5b hn0
        go_wp2
        all_goals first | (exfalso; omega) | skip
        exact ⟨⟨k + 2 + n.toNat, x, rfl, by go_num, by omega, hx5.out⟩, by simp [intOf]; omega⟩
      · have hn1 : ((b.toNat : Int) != 1) = true := (u8_ne (b := b) (n := 1) (fun e => hb1 (UInt8.toNat.inj e))).2
        have hq : b.toNat ≤ 63 := by
          apply Classical.byContradiction
          intro hc
          exact h3 ⟨hb1, h5, by omega⟩
        have hq' : decide (63 < (b.toNat : Int)) = false := decide_eq_false (by omega)
        clear h3 h5 hb1
        go_wp2
        all_goals first | (exfalso; omega) | skip
        exact ⟨⟨k + 2 + n.toNat, x, rfl, by go_num, by omega, hx5.out⟩, by simp [intOf]; omega⟩
end Go.Proofs.Ytmnlcmgbmehggaa
