/-
  Joined texts: Jo, Jp.
-/
import Derived.Test.YtdnehjhijmeihaaGreatQJr
import Derived.Test.YtdnehjhijmeihaaGreatQMem
import Derived.Test.YtdnehjhijmeihaaGreatQGiz
namespace Go.Proofs.YtdnehjhijmeihaaGreat
open Go.ChangeShapes Go.WideShapes Go.ChangeAt Go.RowKit
set_option linter.unusedVariables false
set_option linter.unusedSimpArgs false
set_option maxRecDepth 20000
attribute [local irreducible] wpList
set_option maxHeartbeats 4000000
theorem u8_and15 (a : Nat) (ha : a < 256) : bits .and .u8 (a : Int) 15 = ((a % 16 : Nat) : Int) := by
  rw [show (15 : Int) = ((2 ^ 4 - 1 : Nat) : Int) from rfl, u8_and a _ ha (by omega), Nat.and_two_pow_sub_one_eq_mod]
theorem u8_and63 (a : Nat) (ha : a < 256) : bits .and .u8 (a : Int) 63 = ((a % 64 : Nat) : Int) := by
  rw [show (63 : Int) = ((2 ^ 6 - 1 : Nat) : Int) from rfl, u8_and a _ ha (by omega), Nat.and_two_pow_sub_one_eq_mod]
theorem i64_or8 (a b : Nat) (ha : a < 65536) (hb : b < 256) : bits .or .i64 ((a : Int) * 256) (b : Int) = ((a * 256 + b : Nat) : Int) := by
  rw [show (a : Int) * 256 = ((a * 256 : Nat) : Int) by omega, i64_or _ _ (by omega) (by omega)]
  congr 1
  rw [show a * 256 = a * 2 ^ 8 by rfl, ← Nat.shiftLeft_eq, Nat.shiftLeft_add_eq_or_of_lt (by omega)]
theorem num2_lt (s : ByteArray) (k : Nat) : numAt s k 2 < 65536 := numAt_lt s k 2
def opt4 : List UInt8 → Bool → Option Bool
  | [], is => some is
  | [b], is => if b = 0 then some is else if b = 1 then some is else none
  | b :: n :: r, is => if b = 0 then some is else if b = 1 then opt4 (n :: r) is else
    if h : 2 ≤ n.toNat ∧ n.toNat ≤ r.length + 2 then opt4 ((b :: n :: r).drop n.toNat) (is || (b :: n :: r).take n.toNat == [148, 4, 0, 0]) else none
  termination_by l => l.length
  decreasing_by
    · simp
    · simp only [List.length_drop, List.length_cons]; omega
theorem opt4_nil (is : Bool) : opt4 [] is = some is := by rw [opt4]
theorem opt4_zero (r : List UInt8) (is : Bool) : opt4 (0 :: r) is = some is := by cases r <;> rw [opt4, if_pos rfl]
theorem opt4_one (r : List UInt8) (is : Bool) : opt4 (1 :: r) is = opt4 r is := by
  cases r with
  | nil => simp [opt4]
  | cons n r => rw [opt4.eq_def]; simp
theorem opt4_short {b : UInt8} (h0 : b ≠ 0) (h1 : b ≠ 1) (is : Bool) : opt4 [b] is = none := by rw [opt4, if_neg h0, if_neg h1]
theorem opt4_bad {b n : UInt8} (r : List UInt8) (h0 : b ≠ 0) (h1 : b ≠ 1) (h : ¬ (2 ≤ n.toNat ∧ n.toNat ≤ r.length + 2)) (is : Bool) : opt4 (b :: n :: r) is = none := by
  rw [opt4, if_neg h0, if_neg h1, dif_neg h]
theorem opt4_opt {b n : UInt8} (r : List UInt8) (h0 : b ≠ 0) (h1 : b ≠ 1) (h : 2 ≤ n.toNat ∧ n.toNat ≤ r.length + 2) (is : Bool) : opt4 (b :: n :: r) is = opt4 ((b :: n :: r).drop n.toNat) (is || (b :: n :: r).take n.toNat == [148, 4, 0, 0]) := by
  rw [opt4, if_neg h0, if_neg h1, dif_pos h]
def by4 (s : ByteArray) (i : Nat) : Nat := (s.data.toList[i]?.getD 0).toNat
theorem by4_lt (s : ByteArray) (i : Nat) : by4 s i < 256 := by have := (s.data.toList[i]?.getD 0).toNat_lt; unfold by4; omega
theorem by4_get {s : ByteArray} {i : Nat} (h : i < s.size) : s[i].toNat = by4 s i := by unfold by4; rw [getElem_toList s i h]; rfl
theorem options4_any {T : ByteArray} {w : World} (hT : T.size ≤ 100000) : Gives Tryz.prog 148 #[.string T] w (.tuple #[.bool ((opt4 T.data.toList false).getD false), .bool (opt4 T.data.toList false).isSome]) := by
  refine Gives.of ?_
  have hH := Hp.refl w
  obtain ⟨R, hR⟩ : ∃ R, opt4 T.data.toList false = R := ⟨_, rfl⟩
  rw [hR]
  have HR := Lib.hid hR
  clear hR
  go_enter Tryz.func148, Tryz.ntmps148
  go_wp2_with (refine st ?_; clear hH; first | intro W g hH | intro W hH)
  go_loopw [0, 2] (fun s i wr => ∃ (S : ByteArray) (x : Bool), s = .string S ∧ i = .bool x ∧ opt4 S.data.toList x = R ∧ S.size ≤ T.size ∧ Hp w.heap.size w wr []) (fun s _ _ => match s with | .string S => S.size | _ => 0)
  case atStart => exact ⟨T, false, rfl, rfl, HR.out, Nat.le_refl _, hH⟩
  case round =>
    clear hH
    obtain ⟨S, x, rfl, rfl, hS, hle, hH⟩ := hrel
    have HS := Lib.hid hS
    clear hS
    have hl := size_toList S
    by_cases h0 : S.size = 0
    · obtain rfl : S = ⟨#[]⟩ := data_inj (List.eq_nil_of_length_eq_zero (by omega))
      have hx := Lib.hid (show R = some x by rw [← HS.out]; exact opt4_nil x)
      clear HS
      go_wp2_with (refine st ?_; clear hH; first | intro W g hH | intro W hH)
      go_ret2
      exact ⟨by rw [hx.out]; rfl, hH.below⟩
    have hne : S.toList.isEmpty = false := notEmpty h0
    have hix : ∀ W, (Instr.index 9 (.string S) (.int .i64 0)).run Tryz.prog W = .ok (.int .u8 (S[0].toNat : Int)) W := fun W => run_idx Tryz.underlying9 S 0 (by omega) _ rfl W
    have hc := Lib.hid (show ∃ r, S.data.toList = S[0] :: r ∧ r.length + 1 = S.size by
      have h := getElem_toList S 0 (by omega)
      cases hL : S.data.toList with
      | nil => rw [hL] at h; cases h
      | cons b r => rw [hL] at h; injection h with h; exact ⟨r, by rw [h], by rw [← hl, hL]; rfl⟩)
    have hb8 := S[0].toNat_lt
    generalize S[0] = b at *
    by_cases hb0 : b = 0
    · subst hb0
      have hix : ∀ W, (Instr.index 9 (.string S) (.int .i64 0)).run Tryz.prog W = .ok (.int .u8 0) W := hix
      have hx := Lib.hid (show R = some x by
        obtain ⟨r, hr, _⟩ := hc.out
        rw [← HS.out, hr]; exact opt4_zero r x)
      clear HS
      go_wp2_with (refine st ?_; clear hH; first | intro W g hH | intro W hH)
      go_ret2
      exact ⟨by rw [hx.out]; rfl, hH.below⟩
    have hn0 : ((b.toNat : Int) != 0) = true := by
      have : b.toNat ≠ 0 := fun e => hb0 (UInt8.toNat.inj e)
      simp; omega
    by_cases hb1 : b = 1
    · subst hb1
      have hix : ∀ W, (Instr.index 9 (.string S) (.int .i64 0)).run Tryz.prog W = .ok (.int .u8 1) W := hix
      have hx := Lib.hid (show opt4 (S.extract 1 S.size).data.toList x = R by
        obtain ⟨r, hr, hrl⟩ := hc.out
        rw [← HS.out, toList_extract, hr, opt4_one, List.drop_succ_cons, List.drop_zero, List.take_of_length_le (by omega)])
      have hsz := Lib.hid (show (S.extract 1 S.size).size + 1 = S.size by
        rw [← size_toList, toList_extract, List.length_take, List.length_drop, hl]; omega)
      clear HS
      go_wp2_with (refine st ?_; clear hH; first | intro W g hH | intro W hH)
      refine ⟨⟨_, x, rfl, rfl, hx.out, by have := hsz.out; omega, hH⟩, ?_⟩
      have := hsz.out
      simp
      omega
    have hn1 : ((b.toNat : Int) == 1) = false := by
      have : b.toNat ≠ 1 := fun e => hb1 (UInt8.toNat.inj e)
      simp; omega
    by_cases h1 : S.size < 2
    · have hx := Lib.hid (show R = none by
        obtain ⟨r, hr, hrl⟩ := hc.out
        obtain rfl : r = [] := List.eq_nil_of_length_eq_zero (by omega)
        rw [← HS.out, hr]; exact opt4_short hb0 hb1 x)
      clear HS
      go_wp2_with (refine st ?_; clear hH; first | intro W g hH | intro W hH)
      go_ret2
      exact ⟨by rw [hx.out]; rfl, hH.below⟩
    have hix1 : ∀ W, (Instr.index 9 (.string S) (.int .i64 1)).run Tryz.prog W = .ok (.int .u8 (S[1].toNat : Int)) W := fun W => run_idx Tryz.underlying9 S 1 (by omega) _ rfl W
    have hc1 := Lib.hid (show ∃ r, S.data.toList = b :: S[1] :: r ∧ r.length + 2 = S.size by
      obtain ⟨r, hr, hrl⟩ := hc.out
      have h := getElem_toList S 1 (by omega)
      rw [hr] at h
      cases r with
      | nil => simp at hrl; omega
      | cons n r => injection h with h; exact ⟨r, by rw [hr]; simpa using h, by simpa using hrl⟩)
    have hn8 := S[1].toNat_lt
    generalize S[1] = n at *
    by_cases hw : 2 ≤ n.toNat ∧ n.toNat ≤ S.size
    · have hx := Lib.hid (show opt4 (S.extract n.toNat S.size).data.toList (x || (S.extract 0 n.toNat).toList == [148, 4, 0, 0]) = R by
        obtain ⟨r, hr, hrl⟩ := hc1.out
        rw [← HS.out, hr, opt4_opt r hb0 hb1 (by omega), ByteArray.toList_eq, toList_extract, toList_extract, hr, List.take_of_length_le (i := S.size - n.toNat) (by simp; omega), List.drop_zero, Nat.sub_zero])
      have hsz := Lib.hid (show (S.extract n.toNat S.size).size + n.toNat = S.size by
        rw [← size_toList, toList_extract, List.length_take, List.length_drop, hl]; omega)
      have h2 := hw.1
      have h3 := hw.2
      have d0 : decide ((S.size : Int) < 2) = false := decide_eq_false (by omega)
      have d1 : decide ((n.toNat : Int) < 2) = false := decide_eq_false (by omega)
      have d2 : decide ((S.size : Int) < (n.toNat : Int)) = false := decide_eq_false (by omega)
      clear HS hw
      cases x
      · go_wp2_with (refine st ?_; clear hH; first | intro W g hH | intro W hH)
        (refine rq ?_; clear hH; intro W hH)
        go_wp2_with (refine st ?_; clear hH; first | intro W g hH | intro W hH)
        exact ⟨⟨_, _, rfl, rfl, hx.out, by have := hsz.out; omega, hH⟩, by have := hsz.out; simp; omega⟩
      · go_wp2_with (refine st ?_; clear hH; first | intro W g hH | intro W hH)
        (refine rq ?_; clear hH; intro W hH)
        go_wp2_with (refine st ?_; clear hH; first | intro W g hH | intro W hH)
        exact ⟨⟨_, _, rfl, rfl, hx.out, by have := hsz.out; omega, hH⟩, by have := hsz.out; simp; omega⟩
    · have hx := Lib.hid (show R = none by
        obtain ⟨r, hr, hrl⟩ := hc1.out
        rw [← HS.out, hr]; exact opt4_bad r hb0 hb1 (by omega) x)
      clear HS
      go_wp2_with (refine st ?_; clear hH; first | intro W g hH | intro W hH)
      all_goals first
        | (exfalso; omega)
        | (go_ret2; exact ⟨by rw [hx.out]; rfl, hH.below⟩)
def opt6 : List UInt8 → Bool → Bool × Int
  | [], is => (is, 0)
  | [b], is => if b = 0 then (is, 0) else (false, 2)
  | b :: n :: r, is => if b = 0 then opt6 (n :: r) is else if r.length < n.toNat then (false, 2) else
    if b ≠ 1 ∧ b ≠ 5 ∧ 63 < b.toNat then (false, 5) else opt6 (r.drop n.toNat) (is || (b == 5 && r.take n.toNat == [0, 0]))
  termination_by l => l.length
  decreasing_by
    · simp
    · simp only [List.length_drop, List.length_cons]; omega
theorem opt6_nil (is : Bool) : opt6 [] is = (is, 0) := by rw [opt6]
theorem opt6_zero (r : List UInt8) (is : Bool) : opt6 (0 :: r) is = opt6 r is := by
  cases r with
  | nil => simp [opt6]
  | cons n r => rw [opt6.eq_def]; simp
theorem opt6_short {b : UInt8} (h : b ≠ 0) (is : Bool) : opt6 [b] is = (false, 2) := by rw [opt6, if_neg h]
theorem opt6_form {b n : UInt8} {r : List UInt8} (h : b ≠ 0) (hn : r.length < n.toNat) (is : Bool) : opt6 (b :: n :: r) is = (false, 2) := by rw [opt6, if_neg h, if_pos hn]
theorem opt6_kind {b n : UInt8} {r : List UInt8} (h : b ≠ 0) (hn : ¬ r.length < n.toNat) (hk : b ≠ 1 ∧ b ≠ 5 ∧ 63 < b.toNat) (is : Bool) : opt6 (b :: n :: r) is = (false, 5) := by rw [opt6, if_neg h, if_neg hn, if_pos hk]
theorem opt6_next {b n : UInt8} {r : List UInt8} (h : b ≠ 0) (hn : ¬ r.length < n.toNat) (hk : ¬ (b ≠ 1 ∧ b ≠ 5 ∧ 63 < b.toNat)) (is : Bool) : opt6 (b :: n :: r) is = opt6 (r.drop n.toNat) (is || (b == 5 && r.take n.toNat == [0, 0])) := by rw [opt6, if_neg h, if_neg hn, if_neg hk]
def opt6s (s : ByteArray) : Bool × Int := opt6 s.data.toList false
theorem drop_split {s : ByteArray} {k : Nat} (h : k < s.size) : s.data.toList.drop k = s[k] :: s.data.toList.drop (k + 1) := by
  have hl := size_toList s
  rw [List.drop_eq_getElem_cons (by omega)]
  rfl
theorem num1 {s : ByteArray} {k : Nat} (h : k < s.size) : numAt s k 1 = s[k].toNat := by
  unfold numAt
  rw [drop_split h]
  simp [numL]
def posW (w : World) (g : Nat) : Nat := match w.cell? ⟨g, 1, none⟩ with | some (.int _ n) => n.toNat | _ => 0
theorem posW_of {B : Nat} {w0 W : World} {H : HB} {i g : Nat} {t : TypeId} {b bad : Bool} {s : ByteArray} {k : Nat} (hH : Hp B w0 W H) (hi : nthH H i = some (g, t, b, [.one (.string s), .one (.int .i64 (k : Int)), .one (.bool bad)])) : posW W g = k := by
  unfold posW
  rw [(hH.rows.mem hi).1.cell]
  rfl
theorem rdo {P Q : Prop} (k : Q) (h : Kp Q → P := by (intro kq0; (first | (go_at_call 47; refine hNew hH ?_) | (go_at_call 49; (first | (refine hNum 0 hH rfl rfl ?_ ?_ ?_ ?_ ?_; (focus (first | omega | (simp; omega))); (focus (first | omega | (simp; omega))); (focus (first | omega | (simp; omega))); (focus (first | omega | (simp; omega)))) | (refine hNumNo 0 hH rfl rfl ?_ ?_ ?_ ?_ ?_ ?_; (focus (first | omega | (simp; omega))); (focus (first | omega | (simp; omega))); (focus (first | omega | (simp; omega))); (focus (first | omega | (simp; omega))); (focus (first | omega | (simp; omega)))) | (refine hNumBad 0 hH rfl rfl ?_ ?_ ?_; (focus (first | omega | (simp; omega))); (focus (first | omega | (simp; omega)))))) | (go_at_call 101; (first | (refine hTake 0 hH rfl rfl ?_ ?_ ?_ ?_; (focus (first | omega | (simp; omega))); (focus (first | omega | (simp; omega))); (focus (first | omega | (simp; omega)))) | (refine hTakeNo 0 hH rfl rfl ?_ ?_ ?_ ?_ ?_; (focus (first | omega | (simp; omega))); (focus (first | omega | (simp; omega))); (focus (first | omega | (simp; omega))); (focus (first | omega | (simp; omega)))) | (refine hTakeBad 0 hH rfl rfl ?_ ?_ ?_ ?_; (focus (first | omega | (simp; omega))); (focus (first | omega | (simp; omega))); (focus (first | omega | (simp; omega)))))) | (go_at_call 52; refine hBad 0 hH rfl ?_) | (go_at_call 187; refine hLeft 0 hH rfl ?_ ?_ ?_; (focus (first | omega | (simp; omega))); (focus (first | omega | (simp; omega))))); exact kq0.out)) : P := h ⟨k⟩
theorem options6_any {T : ByteArray} {w : World} (hT : T.size ≤ 100000) : Gives Tryz.prog 149 #[.string T] w (.tuple #[.bool (opt6s T).1, .int .i64 (opt6s T).2]) := by
  refine Gives.of ?_
  obtain ⟨R, hR⟩ : ∃ R, opt6s T = R := ⟨_, rfl⟩
  rw [hR]
  have HR := Lib.hid hR
  clear hR
  have hH := Hp.refl w
  go_enter Tryz.func149, Tryz.ntmps149
  go_wp2_with (first | ((refine rdo ?_; clear hH; (first | intro W g hH | intro W hH); (try simp only [Int.reduceToNat, Int.toNat_natCast, Nat.reduceAdd, Nat.zero_add, Nat.add_zero] at hH ⊢))) | (refine st ?_; clear hH; first | intro W g hH | intro W hH))
  go_loopw [4, 6, 7] (fun i _ _ wr => ∃ (k : Nat) (x : Bool), i = .bool x ∧ k ≤ T.size ∧ opt6 (T.data.toList.drop k) x = R ∧ Hp w.heap.size w wr [(g, 129, true, [.one (.string T), .one (.int .i64 (k : Int)), .one (.bool false)])]) (fun _ _ _ wr => T.size - posW wr g)
  case atStart => exact ⟨0, false, rfl, by omega, HR.out, hH⟩
  case round =>
    clear hH HR
    obtain ⟨k, x, rfl, hk, hS, hH⟩ := hrel
    have hpos := Lib.hid (posW_of (i := 0) hH rfl)
    have HS := Lib.hid hS
    clear hS
    have hl := size_toList T
    by_cases h0 : k = T.size
    · subst h0
      have hx := Lib.hid (show R = (x, 0) by rw [← HS.out, List.drop_of_length_le (by omega)]; exact opt6_nil x)
      have hz : ((T.size - T.size : Nat) : Int) = 0 := by omega
      clear HS
      go_wp2_with (first | ((refine rdo ?_; clear hH; (first | intro W g hH | intro W hH); (try simp only [Int.reduceToNat, Int.toNat_natCast, Nat.reduceAdd, Nat.zero_add, Nat.add_zero] at hH ⊢))) | (refine st ?_; clear hH; first | intro W g hH | intro W hH))
      go_ret2
      exact ⟨by rw [hx.out]; rfl, hH.below⟩
    have hlt : k < T.size := by omega
    have hL1 : 0 < ((T.size - k : Nat) : Int) := by omega
    have hn := num1 hlt
    have hd := Lib.hid (drop_split hlt)
    have hb8 := T[k].toNat_lt
    generalize T[k] = b at *
    by_cases hb0 : b = 0
    · subst hb0
      have hx := Lib.hid (show opt6 (T.data.toList.drop (k + 1)) x = R by rw [← HS.out, hd.out, opt6_zero])
      have hn : numAt T k 1 = 0 := hn
      clear HS hd
      go_wp2_with (first | ((refine rdo ?_; clear hH; (first | intro W g hH | intro W hH); (try simp only [Int.reduceToNat, Int.toNat_natCast, Nat.reduceAdd, Nat.zero_add, Nat.add_zero] at hH ⊢))) | (refine st ?_; clear hH; first | intro W g hH | intro W hH))
      refine ⟨⟨k + 1, x, rfl, by omega, hx.out, hH⟩, ?_⟩
      have := hpos.out
      have h2 := posW_of (i := 0) hH rfl
      omega
    have hn0 : ((b.toNat : Int) == 0) = false := by
      have : b.toNat ≠ 0 := fun e => hb0 (UInt8.toNat.inj e)
      simp; omega
    by_cases h1 : k + 1 = T.size
    · have hx := Lib.hid (show R = (false, 2) by
        rw [← HS.out, hd.out, List.drop_of_length_le (by omega)]; exact opt6_short hb0 x)
      clear HS hd
      go_wp2_with (first | ((refine rdo ?_; clear hH; (first | intro W g hH | intro W hH); (try simp only [Int.reduceToNat, Int.toNat_natCast, Nat.reduceAdd, Nat.zero_add, Nat.add_zero] at hH ⊢))) | (refine st ?_; clear hH; first | intro W g hH | intro W hH))
      go_ret2
      exact ⟨by rw [hx.out]; rfl, hH.below⟩
    have hlt1 : k + 1 < T.size := by omega
    have hm := num1 hlt1
    have hd1 := Lib.hid (drop_split hlt1)
    have hm8 := T[k + 1].toNat_lt
    generalize T[k + 1] = n at *
    have hrl : (T.data.toList.drop (k + 1 + 1)).length = T.size - (k + 2) := by rw [List.length_drop, hl]
    by_cases h2 : T.size < k + 2 + n.toNat
    · have hx := Lib.hid (show R = (false, 2) by
        rw [← HS.out, hd.out, hd1.out]; exact opt6_form hb0 (by omega) x)
      clear HS hd hd1
      go_wp2_with (first | ((refine rdo ?_; clear hH; (first | intro W g hH | intro W hH); (try simp only [Int.reduceToNat, Int.toNat_natCast, Nat.reduceAdd, Nat.zero_add, Nat.add_zero] at hH ⊢))) | (refine st ?_; clear hH; first | intro W g hH | intro W hH))
      go_ret2
      exact ⟨by rw [hx.out]; rfl, hH.below⟩
    by_cases h3 : b ≠ 1 ∧ b ≠ 5 ∧ 63 < b.toNat
    · have hx := Lib.hid (show R = (false, 5) by
        rw [← HS.out, hd.out, hd1.out]; exact opt6_kind hb0 (by omega) h3 x)
      have hn5 : ((b.toNat : Int) == 5) = false := by
        have : b.toNat ≠ 5 := fun e => h3.2.1 (UInt8.toNat.inj e)
        simp; omega
      have hq : 63 < b.toNat := h3.2.2
      have hn1 : decide (1 < (b.toNat : Int)) = true := decide_eq_true (by omega)
      have hk6 : ((b.toNat : Int) / 64 != 0) = true := by simp; omega
      clear HS hd hd1 h3
      go_wp2_with (first | ((refine rdo ?_; clear hH; (first | intro W g hH | intro W hH); (try simp only [Int.reduceToNat, Int.toNat_natCast, Nat.reduceAdd, Nat.zero_add, Nat.add_zero] at hH ⊢))) | (refine st ?_; clear hH; first | intro W g hH | intro W hH))
      go_ret2
      exact ⟨by rw [hx.out]; rfl, hH.below⟩
    have hx := Lib.hid (show opt6 (T.data.toList.drop (k + 2 + n.toNat)) (x || (b == 5 && (T.extract (k + 2) (k + 2 + n.toNat)).toList == [0, 0])) = R by
      rw [← HS.out, hd.out, hd1.out, opt6_next hb0 (by omega) h3, List.drop_drop, ByteArray.toList_eq, toList_extract, show k + 2 + n.toNat - (k + 2) = n.toNat by omega])
    clear HS hd hd1
    by_cases h5 : b = 5
    · subst h5
      have hn : numAt T k 1 = 5 := hn
      clear hn0 h3
      cases x
      · go_wp2_with (first | ((refine rdo ?_; clear hH; (first | intro W g hH | intro W hH); (try simp only [Int.reduceToNat, Int.toNat_natCast, Nat.reduceAdd, Nat.zero_add, Nat.add_zero] at hH ⊢))) | (refine st ?_; clear hH; first | intro W g hH | intro W hH))
        refine ⟨⟨_, _, rfl, ?_, ?_, hH⟩, ?_⟩
        · omega
        · have h := hx.out; simpa using h
        · have := hpos.out
          have h2 := posW_of (i := 0) hH rfl
          omega
      · go_wp2_with (first | ((refine rdo ?_; clear hH; (first | intro W g hH | intro W hH); (try simp only [Int.reduceToNat, Int.toNat_natCast, Nat.reduceAdd, Nat.zero_add, Nat.add_zero] at hH ⊢))) | (refine st ?_; clear hH; first | intro W g hH | intro W hH))
        refine ⟨⟨_, _, rfl, ?_, ?_, hH⟩, ?_⟩
        · omega
        · have h := hx.out; simpa using h
        · have := hpos.out
          have h2 := posW_of (i := 0) hH rfl
          omega
    · have hn5 : ((b.toNat : Int) == 5) = false := by
        have : b.toNat ≠ 5 := fun e => h5 (UInt8.toNat.inj e)
        simp; omega
      have hq : b.toNat ≤ 63 := by
        apply Classical.byContradiction
        intro hc
        apply h3
        refine ⟨fun e => ?_, h5, by omega⟩
        subst e
        simp at hc
      have hk6 : ((b.toNat : Int) / 64 != 0) = false := by simp; omega
      clear h3
      by_cases hn1 : 1 < (b.toNat : Int)
      · go_wp2_with (first | ((refine rdo ?_; clear hH; (first | intro W g hH | intro W hH); (try simp only [Int.reduceToNat, Int.toNat_natCast, Nat.reduceAdd, Nat.zero_add, Nat.add_zero] at hH ⊢))) | (refine st ?_; clear hH; first | intro W g hH | intro W hH))
        refine ⟨⟨_, _, rfl, ?_, ?_, hH⟩, ?_⟩
        · omega
        · have h := hx.out; rw [show (b == 5) = false by simpa using h5] at h; simpa using h
        · have := hpos.out
          have h2 := posW_of (i := 0) hH rfl
          omega
      · go_wp2_with (first | ((refine rdo ?_; clear hH; (first | intro W g hH | intro W hH); (try simp only [Int.reduceToNat, Int.toNat_natCast, Nat.reduceAdd, Nat.zero_add, Nat.add_zero] at hH ⊢))) | (refine st ?_; clear hH; first | intro W g hH | intro W hH))
        refine ⟨⟨_, _, rfl, ?_, ?_, hH⟩, ?_⟩
        · omega
        · have h := hx.out; rw [show (b == 5) = false by simpa using h5] at h; simpa using h
        · have := hpos.out
          have h2 := posW_of (i := 0) hH rfl
          omega
end Go.Proofs.YtdnehjhijmeihaaGreat
