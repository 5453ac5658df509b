/-
  Pbz: Pr0, Pb, Pc, Pd in one text.
-/
import Derived.Lib.ItoaNum
import Derived.Lib.Join
import Derived.Test.YtjegjgdihpihoaaGreatDoorDr
import Derived.Test.YtjegjgdihpihoaaGreatDoorIn
import Derived.Test.YtjegjgdihpihoaaGreatDoorDv
namespace Go.Proofs.YtjegjgdihpihoaaGreatDoor
-- %in
section
namespace Pr
set_option linter.unusedVariables false
set_option linter.unusedSimpArgs false
/-- how many noughts stand from place i on -/
def runAt (z : List Bool) (i : Nat) : Nat := ((z.drop i).takeWhile id).length
/-- the program's row: past each run in one step -/
def rowP (z : List Bool) : Nat → Nat → Nat × Nat → Nat × Nat
  | 0, _, p => p
  | f + 1, i, p => if i < 8 then rowP z f (i + runAt z i + 1) (if p.2 < runAt z i then (i, runAt z i) else p) else p
/-- the reference's: every place -/
def rowR (z : List Bool) : Nat → Nat → Option Nat × Nat → Option Nat × Nat
  | 0, _, p => p
  | f + 1, i, p => if i < 8 then rowR z f (i + 1) (if p.2 < runAt z i then (some i, runAt z i) else p) else p
/-- words from a to b, signs between: none is the sign -/
def lst (a b : Nat) : List (Option Nat) := ((List.range' a (b - a)).map fun i => if i = a then [some i] else [none, some i]).flatten
def tokP (z : List Bool) : List (Option Nat) :=
  if (rowP z 9 0 (0, 1)).2 < 2 then lst 0 8 else lst 0 (rowP z 9 0 (0, 1)).1 ++ [none, none] ++ lst ((rowP z 9 0 (0, 1)).1 + (rowP z 9 0 (0, 1)).2) 8
def tokRgo (p : Option Nat × Nat) : Nat → Nat → List (Option Nat) → List (Option Nat)
  | 0, _, s => s
  | f + 1, i, s => if i < 8 then (if some i = p.1 then tokRgo p f (i + p.2) (s ++ [none, none]) else if s ≠ [] ∧ s.getLast? ≠ some none then tokRgo p f (i + 1) (s ++ [none, some i]) else tokRgo p f (i + 1) (s ++ [some i])) else s
def tokR (z : List Bool) : List (Option Nat) := tokRgo (rowR z 9 0 (none, 1)) 9 0 []
set_option maxRecDepth 100000 in
theorem tok_eq8 : ∀ a b c d e f g h : Bool, tokP [a, b, c, d, e, f, g, h] = tokR [a, b, c, d, e, f, g, h] := by decide +kernel
theorem tok_eq (z : List Bool) (h : z.length = 8) : tokP z = tokR z := by
  match z, h with
  | [a, b, c, d, e, f, g, i], _ => exact tok_eq8 a b c d e f g i
/-- one sign of a number -/
def sgn (d : Nat) : UInt8 := UInt8.ofNat (if d < 10 then 48 + d else 87 + d)
/-- the digits of u, base b -/
def digs (b u : Nat) : List UInt8 := if _h : u < b ∨ b < 2 then [sgn u] else digs b (u / b) ++ [sgn (u % b)]
termination_by u
decreasing_by exact Nat.div_lt_self (by omega) (by omega)
theorem digs_small {b u : Nat} (h : u < b) : digs b u = [sgn u] := by rw [digs, dif_pos (.inl h)]
theorem digs_big {b u : Nat} (hb : 2 ≤ b) (h : ¬ u < b) : digs b u = digs b (u / b) ++ [sgn (u % b)] := by
  rw [digs, dif_neg (by omega)]
theorem digs_ten (u : Nat) : digs 10 u = Lib.decDigits u := by
  induction u using Nat.strongRecOn with
  | ind u ih =>
    rw [Lib.decDigits]
    by_cases h : u < 10
    · rw [digs_small h, dif_pos h, sgn, if_pos h]
    · rw [digs_big (by omega) h, dif_neg h, ih (u / 10) (by omega), sgn, if_pos (by omega)]
theorem digs_itoa (u : Nat) : digs 10 u = Lib.itoa (u : Int) := by
  rw [Lib.itoa, if_neg (by omega), digs_ten, Int.toNat_natCast]
/-- no digit is the sign of an address, and there is at least one -/
theorem digs_ne (b u : Nat) : digs b u ≠ [] := by
  rw [digs]; split <;> simp
theorem sgn_ne {d : Nat} (h : d < 16) : sgn d ≠ 58 := by
  have : ∀ d : Fin 16, sgn d.1 ≠ 58 := by decide
  exact this ⟨d, h⟩
theorem digs_last (b u : Nat) (hb : 2 ≤ b) (h : b ≤ 16) : (digs b u).getLast? ≠ some 58 := by
  rw [digs]; split
  · rename_i h1; simpa using sgn_ne (d := u) (by omega)
  · have := Nat.mod_lt u (show 0 < b by omega)
    simpa using sgn_ne (d := u % b) (by omega)
/-- the letters of a sign or a word -/
def tk (h : Nat → List UInt8) : Option Nat → List UInt8
  | none => [58]
  | some i => h i
def flat (h : Nat → List UInt8) (t : List (Option Nat)) : List UInt8 := t.flatMap (tk h)
/-- the reference's loop over the text itself -/
def strRgo (h : Nat → List UInt8) (p : Option Nat × Nat) : Nat → Nat → List UInt8 → List UInt8
  | 0, _, s => s
  | f + 1, i, s => if i < 8 then (if some i = p.1 then strRgo h p f (i + p.2) (s ++ [58, 58]) else if s ≠ [] ∧ s.getLast? ≠ some 58 then strRgo h p f (i + 1) (s ++ [58] ++ h i) else strRgo h p f (i + 1) (s ++ h i)) else s
theorem flat_app (h : Nat → List UInt8) (a b : List (Option Nat)) : flat h (a ++ b) = flat h a ++ flat h b := by simp [flat]
theorem flat_nil (h : Nat → List UInt8) (hn : ∀ i, h i ≠ []) (t : List (Option Nat)) : flat h t = [] ↔ t = [] := by
  cases t with
  | nil => simp [flat]
  | cons a t => cases a <;> simp [flat, tk, hn]
theorem flat_last (h : Nat → List UInt8) (hn : ∀ i, h i ≠ []) (hl : ∀ i, (h i).getLast? ≠ some 58) (t : List (Option Nat)) : (flat h t).getLast? = some 58 ↔ t.getLast? = some none := by
  rcases List.eq_nil_or_concat t with rfl | ⟨l, a, rfl⟩
  · simp [flat]
  · rw [List.concat_eq_append, flat_app]
    cases a with
    | none => simp [flat, tk]
    | some i =>
      have e : flat h [some i] = h i := by simp [flat, tk]
      have := hl i
      rw [e, List.getLast?_append]
      cases hh : (h i).getLast? with
      | none => simp [List.getLast?_eq_none_iff, hn] at hh
      | some c => rw [hh] at this; simpa using this
theorem str_tok (h : Nat → List UInt8) (hn : ∀ i, h i ≠ []) (hl : ∀ i, (h i).getLast? ≠ some 58) (p : Option Nat × Nat) :
    ∀ f i t, strRgo h p f i (flat h t) = flat h (tokRgo p f i t)
  | 0, _, _ => rfl
  | f + 1, i, t => by
    unfold strRgo tokRgo
    simp only [ne_eq, flat_nil h hn, flat_last h hn hl]
    split
    · split
      · rw [show flat h t ++ [58, 58] = flat h (t ++ [none, none]) by rw [flat_app]; rfl, str_tok h hn hl p f]
      · split
        · rw [show flat h t ++ [58] ++ h i = flat h (t ++ [none, some i]) by rw [flat_app]; simp [flat, tk], str_tok h hn hl p f]
        · rw [show flat h t ++ h i = flat h (t ++ [some i]) by rw [flat_app]; simp [flat, tk], str_tok h hn hl p f]
    · rfl
/-- the program's words, joined -/
theorem flat_tail (h : Nat → List UInt8) (a : Nat) : ∀ n b, a < b → flat h ((List.range' b n).map fun i => if i = a then [some i] else [none, some i]).flatten = Lib.joinTail [58] ((List.range' b n).map h)
  | 0, _, _ => by simp [flat, Lib.joinTail]
  | n + 1, b, hb => by
    have := flat_tail h a n (b + 1) (by omega)
    simp only [List.range'_succ, List.map_cons, List.flatten_cons, if_neg (show ¬ b = a by omega), flat_app, this]
    simp [flat, tk, Lib.joinTail]
theorem flat_lst (h : Nat → List UInt8) (a b : Nat) : flat h (lst a b) = Lib.join ((List.range' a (b - a)).map h) [58] := by
  unfold lst
  cases hn : b - a with
  | zero => simp [flat, Lib.join]
  | succ n =>
    have := flat_tail h a n (a + 1) (by omega)
    simp only [List.range'_succ, List.map_cons, List.flatten_cons, if_true, flat_app, this, Lib.join_cons]
    simp [flat, tk]
/-- the program's text of an address with colons -/
def addrP (h : Nat → List UInt8) (z : List Bool) : List UInt8 :=
  if (rowP z 9 0 (0, 1)).2 < 2 then Lib.join ((List.range' 0 8).map h) [58]
  else Lib.join ((List.range' 0 (rowP z 9 0 (0, 1)).1).map h) [58] ++ [58, 58] ++ Lib.join ((List.range' ((rowP z 9 0 (0, 1)).1 + (rowP z 9 0 (0, 1)).2) (8 - ((rowP z 9 0 (0, 1)).1 + (rowP z 9 0 (0, 1)).2))).map h) [58]
/-- the reference's -/
def addrR (h : Nat → List UInt8) (z : List Bool) : List UInt8 := strRgo h (rowR z 9 0 (none, 1)) 9 0 []
theorem addr_eq (h : Nat → List UInt8) (hn : ∀ i, h i ≠ []) (hl : ∀ i, (h i).getLast? ≠ some 58) (z : List Bool) (hz : z.length = 8) : addrP h z = addrR h z := by
  have e1 : addrR h z = flat h (tokR z) := by
    have := str_tok h hn hl (rowR z 9 0 (none, 1)) 9 0 []
    exact this
  rw [e1, ← tok_eq z hz, tokP, addrP]
  split
  · rw [flat_lst]
  · rw [flat_app, flat_app, flat_lst, flat_lst]; rfl
theorem word_eq (w : Nat → Nat) (z : List Bool) (hz : z.length = 8) : addrP (fun i => digs 16 (w i)) z = addrR (fun i => digs 16 (w i)) z :=
  addr_eq _ (fun _ => digs_ne _ _) (fun _ => digs_last _ _ (by omega) (by omega)) z hz
/-- a string grown element by element is the join -/
theorem grow_join (sep x : List UInt8) (r : List (List UInt8)) : r.foldl (fun s y => s ++ sep ++ y) x = Lib.join (x :: r) sep := by
  rw [Lib.join_cons]
  induction r generalizing x with
  | nil => simp [Lib.joinTail]
  | cons y r ih => rw [List.foldl_cons, ih]; simp [Lib.joinTail]
theorem digs_len (b : Nat) (hb : 2 ≤ b) (u : Nat) : (digs b u).length ≤ u + 1 := by
  induction u using Nat.strongRecOn with
  | ind u ih =>
    by_cases h : u < b
    · rw [digs_small h]; simp
    · rw [digs_big hb h, List.length_append]
      have h1 : u / b < u := Nat.div_lt_self (by omega) (by omega)
      have := ih (u / b) h1
      simp only [List.length_cons, List.length_nil]; omega
/-- the digits of the rest ahead of what is there -/
def ahead (b m : Nat) (s : List UInt8) : List UInt8 := (if m = 0 then [] else digs b m) ++ s
theorem ahead_step {b m : Nat} (hb : 2 ≤ b) (hm : 0 < m) (s : List UInt8) : ahead b (m / b) (sgn (m % b) :: s) = ahead b m s := by
  unfold ahead
  rw [if_neg (show ¬ m = 0 by omega)]
  by_cases h : m < b
  · rw [digs_small h, Nat.div_eq_of_lt h, Nat.mod_eq_of_lt h]; rfl
  · have h0 : m / b ≠ 0 := by
      have := Nat.div_pos (show b ≤ m by omega) (by omega); omega
    rw [if_neg h0, digs_big hb h]; simp
theorem ahead_first {b m : Nat} (hb : 2 ≤ b) : ahead b (m / b) [sgn (m % b)] = digs b m := by
  unfold ahead
  by_cases h : m < b
  · rw [digs_small h, Nat.div_eq_of_lt h, Nat.mod_eq_of_lt h]; rfl
  · have h0 : m / b ≠ 0 := by
      have := Nat.div_pos (show b ≤ m by omega) (by omega); omega
    rw [if_neg h0, digs_big hb h]
/-- a string grown, a sign between -/
def grown (sep : List UInt8) (h : Nat → List UInt8) : Nat → List UInt8
  | 0 => []
  | 1 => h 0
  | n + 2 => grown sep h (n + 1) ++ sep ++ h (n + 1)
theorem grown_succ (sep : List UInt8) (h : Nat → List UInt8) {n : Nat} (hn : 0 < n) : grown sep h (n + 1) = grown sep h n ++ sep ++ h n := by
  cases n with
  | zero => omega
  | succ n => rfl
theorem grown_fold (sep : List UInt8) (h : Nat → List UInt8) (n : Nat) : grown sep h (n + 1) = ((List.range' 1 n).map h).foldl (fun s y => s ++ sep ++ y) (h 0) := by
  induction n with
  | zero => rfl
  | succ n ih =>
    rw [grown, ih, List.range'_concat, List.map_append, List.foldl_append]
    simp [Nat.add_comm]
theorem grown_join (sep : List UInt8) (h : Nat → List UInt8) (n : Nat) : grown sep h n = Lib.join ((List.range n).map h) sep := by
  cases n with
  | zero => rfl
  | succ n => rw [grown_fold, grow_join, List.range_eq_range', List.range'_succ]; rfl
/-- how long a grown string is -/
theorem grown_len (sep : List UInt8) (h : Nat → List UInt8) (k : Nat) (hs : sep.length ≤ 1) (hh : ∀ i, (h i).length ≤ k) : ∀ n, (grown sep h n).length ≤ n * (k + 1)
  | 0 => by simp [grown]
  | 1 => by have := hh 0; simp only [grown]; omega
  | n + 2 => by
    have h1 := grown_len sep h k hs hh (n + 1)
    have h2 := hh (n + 1)
    simp only [grown, List.length_append]
    rw [show n + 2 = (n + 1) + 1 by omega, Nat.add_mul]; omega
/-! ### rows of noughts -/
theorem runAt_le (z : List Bool) (i : Nat) (hz : z.length = 8) : runAt z i ≤ 8 - i := by
  unfold runAt
  have := (List.takeWhile_prefix (l := z.drop i) id).length_le
  rw [List.length_drop, hz] at this; exact this
theorem runAt_lt {z : List Bool} {i k : Nat} (hz : z.length = 8) (hk : k ≤ runAt z i) : k < runAt z i ↔ (i + k < 8 ∧ z[i + k]? = some true) := by
  unfold runAt at *
  generalize hl : z.drop i = l at *
  have hg : ∀ j, z[i + j]? = l[j]? := fun j => by rw [← hl, List.getElem?_drop]
  have h8 : l.length = 8 - i := by rw [← hl, List.length_drop, hz]
  rw [hg]
  clear hg hl
  have hlt : l[k]? = some true → i + k < 8 := fun h => by
    have := (List.getElem?_eq_some_iff.1 h).1; omega
  have key : ∀ (l : List Bool) (k : Nat), k ≤ (l.takeWhile id).length → (k < (l.takeWhile id).length ↔ l[k]? = some true) := by
    intro l
    induction l with
    | nil => intro k hk; simp at hk; subst hk; simp
    | cons a l ih =>
      intro k hk
      cases a
      · simp at hk; subst hk; simp
      · cases k with
        | zero => simp
        | succ k => simp only [List.takeWhile_cons, id_eq, if_true, List.length_cons, List.getElem?_cons_succ] at hk ⊢
                    rw [← ih k (by omega)]; omega
  rw [key l k hk]
  exact ⟨fun h => ⟨hlt h, h⟩, fun h => h.2⟩
/-- the place where the longest row begins is within the words, and it is as long as it can be -/
theorem rowR_ok (z : List Bool) (hz : z.length = 8) : ∀ (f i : Nat) (p : Option Nat × Nat), (1 ≤ p.2 ∧ p.2 ≤ 8) → (1 ≤ (rowR z f i p).2 ∧ (rowR z f i p).2 ≤ 8)
  | 0, _, _, h => h
  | f + 1, i, p, h => by
    rw [rowR]
    split
    · refine rowR_ok z hz f _ _ ?_
      have := runAt_le z i hz
      split
      · simp only; omega
      · exact h
    · exact h
theorem rowP_ok (z : List Bool) (hz : z.length = 8) : ∀ (f i : Nat) (p : Nat × Nat), p.1 + p.2 ≤ 9 → (p.2 ≤ 1 ∨ p.1 + p.2 ≤ 8) → 1 ≤ p.2 → ((rowP z f i p).1 + (rowP z f i p).2 ≤ 9 ∧ ((rowP z f i p).2 ≤ 1 ∨ (rowP z f i p).1 + (rowP z f i p).2 ≤ 8) ∧ 1 ≤ (rowP z f i p).2)
  | 0, _, _, h1, h2, h3 => ⟨h1, h2, h3⟩
  | f + 1, i, p, h1, h2, h3 => by
    rw [rowP]
    split
    · have := runAt_le z i hz
      split
      · exact rowP_ok z hz f _ _ (by simp only; omega) (by simp only; omega) (by simp only; omega)
      · exact rowP_ok z hz f _ _ h1 h2 h3
    · exact ⟨h1, h2, h3⟩
theorem strRgo_len (h : Nat → List UInt8) (p : Option Nat × Nat) (k : Nat) (hh : ∀ i, (h i).length ≤ k) : ∀ (f i : Nat) (s : List UInt8), (strRgo h p f i s).length ≤ s.length + f * (k + 2)
  | 0, _, s => by simp [strRgo]
  | f + 1, i, s => by
    have h1 := hh i
    have e : (f + 1) * (k + 2) = f * (k + 2) + (k + 2) := Nat.succ_mul _ _
    rw [strRgo]
    split
    · split
      · have := strRgo_len h p k hh f (i + p.2) (s ++ [58, 58])
        simp only [List.length_append, List.length_cons, List.length_nil] at this; omega
      · split
        · have := strRgo_len h p k hh f (i + 1) (s ++ [58] ++ h i)
          simp only [List.length_append, List.length_cons, List.length_nil] at this; omega
        · have := strRgo_len h p k hh f (i + 1) (s ++ h i)
          simp only [List.length_append] at this; omega
    · omega
end Pr
end
section
open Go.ChangeShapes Go.WideShapes Go.ChangeAt Go.RowKit
set_option linter.unusedVariables false
set_option linter.unusedSimpArgs false
set_option maxRecDepth 20000
attribute [local irreducible] wpList

theorem rsgn_any {x : Int} {n : Nat} {w : World} (hx : x = (n : Int)) (hn : n < 16) : Gives Tryz.prog 60 #[.int .u8 x] w (.string (str [Pr.sgn n])) := by
  subst hx
  refine Gives.of ?_
  have hc : n = 0 ∨ n = 1 ∨ n = 2 ∨ n = 3 ∨ n = 4 ∨ n = 5 ∨ n = 6 ∨ n = 7 ∨ n = 8 ∨ n = 9 ∨ n = 10 ∨ n = 11 ∨ n = 12 ∨ n = 13 ∨ n = 14 ∨ n = 15 := by omega
  have he : (ByteArray.mk #[48, 49, 50, 51, 52, 53, 54, 55, 56, 57, 97, 98, 99, 100, 101, 102]).extract n (n + 1) = str [Pr.sgn n] := by
    rcases hc with rfl | rfl | rfl | rfl | rfl | rfl | rfl | rfl | rfl | rfl | rfl | rfl | rfl | rfl | rfl | rfl <;> decide
  have HE := Lib.hid he; clear he
  clear hc
  go_enter Tryz.func60, Tryz.ntmps60
  go_wp2
  go_ret
  exact ⟨by rw [← HE.out]; rfl, by simp⟩
def szM : Value → Nat
  | .string x => if x.size = 0 then 1 else 0
  | _ => 0
theorem szM_nil : szM (.string (str [])) = 1 := rfl
theorem szM_cons (c : UInt8) (l : List UInt8) : szM (.string (str (c :: l))) = 0 := by
  have h : (str (c :: l)).size = l.length + 1 := by rw [str_size]; rfl
  unfold szM
  simp only [h]
  rw [if_neg (by omega)]
theorem str_ne {c : UInt8} {l : List UInt8} : (str (c :: l)).toList.isEmpty = false := notEmpty (by rw [str_size]; simp)
theorem str_e : (str ([] : List UInt8)).toList.isEmpty = true := by decide +kernel
set_option maxHeartbeats 1000000 in
theorem rNum10 {n : Nat} {w : World} (hn : n ≤ 65535) : Gives Tryz.prog 32 #[.int .i64 (n : Int), .int .i64 10] w (.string (str (Pr.digs 10 n))) := by
  refine Gives.of ?_
  have hlen := Pr.digs_len 10 (by omega) n
  have hA1 := Lib.hid (show ∀ m s, 0 < m → Pr.ahead 10 (m / 10) (Pr.sgn (m % 10) :: s) = Pr.ahead 10 m s from fun m s h => Pr.ahead_step (by omega) h s)
  have hA0 := Lib.hid (show Pr.ahead 10 (n / 10) [Pr.sgn (n % 10)] = Pr.digs 10 n from Pr.ahead_first (by omega))
  have hAz := Lib.hid (show ∀ s, Pr.ahead 10 0 s = s from fun s => rfl)
  have hAl := Lib.hid (show ∀ m s, s.length ≤ (Pr.ahead 10 m s).length from fun m s => by unfold Pr.ahead; simp)
  generalize Pr.digs 10 n = res at *
  have hs : ∀ (m : Nat) w, Gives Tryz.prog 60 #[.int .u8 ((m : Int) % 10)] w (.string (str [Pr.sgn (m % 10)])) := fun m w => rsgn_any (by omega) (by omega)
  have hH := Hp.refl w
  go_enter Tryz.func32, Tryz.ntmps32
  go_wp2_with (fail)
  go_loopw [0, 5] (fun v s wr => ∃ (m : Nat) (S : List UInt8), v = .int .i64 (m : Int) ∧ s = .string (str S) ∧ m ≤ 65535 ∧ ((S = [] ∧ m = n) ∨ (S ≠ [] ∧ Pr.ahead 10 m S = res)) ∧ Hp w.heap.size w wr []) (fun v s _ => (intOf v).toNat + szM s)
  case atStart => exact ⟨n, [], rfl, rfl, hn, .inl ⟨rfl, rfl⟩, hH⟩
  case round =>
    clear hH
    obtain ⟨m, S, rfl, rfl, hm, hS, hH⟩ := hrel
    rcases hS with ⟨rfl, rfl⟩ | ⟨hne, hS⟩
    · have e0 := str_e
      go_wp2_with (first | ((first | ((with_reducible refine callH hH ?_); refine ⟨?_, ?_, ?_⟩; rotate_left; (focus (first | (with_reducible exact hs _ _))))); clear hH; (first | intro W g hH | intro W hH); ((try simp only [Act.put, pA, pB, pC]))))
      exact ⟨⟨m / 10, [Pr.sgn (m % 10)], by simp, by rw [str_append]; rfl, by omega, .inr ⟨by simp, hA0.out⟩, hH⟩, by rw [str_append, List.append_nil, szM_nil, szM_cons]; simp [intOf]; omega⟩
    · obtain ⟨c, l, rfl⟩ := List.exists_cons_of_ne_nil hne
      have e0 := str_ne (c := c) (l := l)
      have hl := hAl.out m (c :: l)
      rw [hS] at hl
      have hll : l.length ≤ 65536 := by simp only [List.length_cons] at hl; omega
      by_cases h0 : 0 < m
      · have hN := Lib.hid (hA1.out m (c :: l) h0)
        have HS := Lib.hid hS
        clear hS hl hne
        have d0 : decide (0 < m) = true := decide_eq_true h0
        go_wp2_with (first | ((first | ((with_reducible refine callH hH ?_); refine ⟨?_, ?_, ?_⟩; rotate_left; (focus (first | (with_reducible exact hs _ _))))); clear hH; (first | intro W g hH | intro W hH); ((try simp only [Act.put, pA, pB, pC]))))
        exact ⟨⟨m / 10, Pr.sgn (m % 10) :: c :: l, by simp, by rw [str_append]; rfl, by omega, .inr ⟨by simp, by rw [hN.out, HS.out]⟩, hH⟩, by rw [str_append, szM_cons, List.cons_append, szM_cons]; simp [intOf]; omega⟩
      · obtain rfl : m = 0 := by omega
        rw [hAz.out] at hS
        have d0 : decide ((0 : Int) > 0) = false := rfl
        subst hS
        go_wp2_with (fail)
        go_ret
        exact ⟨rfl, hH.below⟩
set_option maxHeartbeats 1000000 in
theorem rNum16 {n : Nat} {w : World} (hn : n ≤ 65535) : Gives Tryz.prog 32 #[.int .i64 (n : Int), .int .i64 16] w (.string (str (Pr.digs 16 n))) := by
  refine Gives.of ?_
  have hlen := Pr.digs_len 16 (by omega) n
  have hA1 := Lib.hid (show ∀ m s, 0 < m → Pr.ahead 16 (m / 16) (Pr.sgn (m % 16) :: s) = Pr.ahead 16 m s from fun m s h => Pr.ahead_step (by omega) h s)
  have hA0 := Lib.hid (show Pr.ahead 16 (n / 16) [Pr.sgn (n % 16)] = Pr.digs 16 n from Pr.ahead_first (by omega))
  have hAz := Lib.hid (show ∀ s, Pr.ahead 16 0 s = s from fun s => rfl)
  have hAl := Lib.hid (show ∀ m s, s.length ≤ (Pr.ahead 16 m s).length from fun m s => by unfold Pr.ahead; simp)
  generalize Pr.digs 16 n = res at *
  have hs : ∀ (m : Nat) w, Gives Tryz.prog 60 #[.int .u8 ((m : Int) % 16)] w (.string (str [Pr.sgn (m % 16)])) := fun m w => rsgn_any (by omega) (by omega)
  have hH := Hp.refl w
  go_enter Tryz.func32, Tryz.ntmps32
  go_wp2_with (fail)
  go_loopw [0, 5] (fun v s wr => ∃ (m : Nat) (S : List UInt8), v = .int .i64 (m : Int) ∧ s = .string (str S) ∧ m ≤ 65535 ∧ ((S = [] ∧ m = n) ∨ (S ≠ [] ∧ Pr.ahead 16 m S = res)) ∧ Hp w.heap.size w wr []) (fun v s _ => (intOf v).toNat + szM s)
  case atStart => exact ⟨n, [], rfl, rfl, hn, .inl ⟨rfl, rfl⟩, hH⟩
  case round =>
    clear hH
    obtain ⟨m, S, rfl, rfl, hm, hS, hH⟩ := hrel
    rcases hS with ⟨rfl, rfl⟩ | ⟨hne, hS⟩
    · have e0 := str_e
      go_wp2_with (first | ((first | ((with_reducible refine callH hH ?_); refine ⟨?_, ?_, ?_⟩; rotate_left; (focus (first | (with_reducible exact hs _ _))))); clear hH; (first | intro W g hH | intro W hH); ((try simp only [Act.put, pA, pB, pC]))))
      exact ⟨⟨m / 16, [Pr.sgn (m % 16)], by simp, by rw [str_append]; rfl, by omega, .inr ⟨by simp, hA0.out⟩, hH⟩, by rw [str_append, List.append_nil, szM_nil, szM_cons]; simp [intOf]; omega⟩
    · obtain ⟨c, l, rfl⟩ := List.exists_cons_of_ne_nil hne
      have e0 := str_ne (c := c) (l := l)
      have hl := hAl.out m (c :: l)
      rw [hS] at hl
      have hll : l.length ≤ 65536 := by simp only [List.length_cons] at hl; omega
      by_cases h0 : 0 < m
      · have hN := Lib.hid (hA1.out m (c :: l) h0)
        have HS := Lib.hid hS
        clear hS hl hne
        have d0 : decide (0 < m) = true := decide_eq_true h0
        go_wp2_with (first | ((first | ((with_reducible refine callH hH ?_); refine ⟨?_, ?_, ?_⟩; rotate_left; (focus (first | (with_reducible exact hs _ _))))); clear hH; (first | intro W g hH | intro W hH); ((try simp only [Act.put, pA, pB, pC]))))
        exact ⟨⟨m / 16, Pr.sgn (m % 16) :: c :: l, by simp, by rw [str_append]; rfl, by omega, .inr ⟨by simp, by rw [hN.out, HS.out]⟩, hH⟩, by rw [str_append, szM_cons, List.cons_append, szM_cons]; simp [intOf]; omega⟩
      · obtain rfl : m = 0 := by omega
        rw [hAz.out] at hS
        have d0 : decide ((0 : Int) > 0) = false := rfl
        subst hS
        go_wp2_with (fail)
        go_ret
        exact ⟨rfl, hH.below⟩
end
section
open Go.ChangeShapes Go.WideShapes Go.ChangeAt Go.RowKit
set_option linter.unusedVariables false
set_option linter.unusedSimpArgs false
set_option maxRecDepth 20000
attribute [local irreducible] wpList

def b4 (a : Ad) (j : Nat) : Nat := (a.b.getD j 0).toNat
theorem b4_lt (a : Ad) (j : Nat) : b4 a j < 256 := (a.b.getD j 0).toNat_lt
theorem cell4 {a : Ad} {j : Nat} (h : j < 16) : CellA (adL a) (1 + j) (.int .u8 (b4 a j : Int)) := by
  have hl : j < a.b.length := by rw [a.h]; exact h
  have := cellB (a := a) hl
  unfold b4
  rw [List.getD_eq_getElem?_getD, List.getElem?_eq_getElem hl]
  exact this
def wdA (a : Ad) (i : Nat) : Nat := 256 * b4 a (2 * i) + b4 a (2 * i + 1)
def zsA (a : Ad) : List Bool := (List.range 8).map fun i => b4 a (2 * i) == 0 && b4 a (2 * i + 1) == 0
theorem zsA_len (a : Ad) : (zsA a).length = 8 := by simp [zsA]
theorem zsA_at (a : Ad) {i : Nat} (h : i < 8) : (zsA a)[i]? = some true ↔ (b4 a (2 * i) = 0 ∧ b4 a (2 * i + 1) = 0) := by
  unfold zsA
  rw [List.getElem?_map, List.getElem?_range h]
  simp
def h10 (a : Ad) (j : Nat) : List UInt8 := Pr.digs 10 (b4 a j)
def h16 (a : Ad) (i : Nat) : List UInt8 := Pr.digs 16 (wdA a i)
theorem h10_len (a : Ad) (j : Nat) : (h10 a j).length ≤ 256 := by
  have := Pr.digs_len 10 (by omega) (b4 a j); have := b4_lt a j; unfold h10; omega
theorem h16_len (a : Ad) (j : Nat) : (h16 a j).length ≤ 65536 := by
  have := Pr.digs_len 16 (by omega) (wdA a j); have := b4_lt a (2 * j); have := b4_lt a (2 * j + 1); unfold h16; unfold wdA at *; omega
def txtA (a : Ad) : List UInt8 := if a.v then Pr.addrR (h16 a) (zsA a) else Pr.grown [46] (h10 a) 4
section
variable {w : World} {a : Ad}
set_option maxHeartbeats 1000000 in
theorem rPrint4 (hv : a.v = false) : Gives Tryz.prog 14 #[.agg (fls [.many (adL a) 17]).toArray] w (.string (str (Pr.grown [46] (h10 a) 4))) := by
  refine Gives.of ?_
  have oA := adL_ok a
  have zA := adL_0 a
  rw [hv] at zA
  have HC := Lib.hid (fun j (h : j < 16) => cell4 (a := a) h)
  have HB := Lib.hid (b4_lt a)
  have HN := Lib.hid (show ∀ j w, Gives Tryz.prog 32 #[.int .i64 (b4 a j : Int), .int .i64 10] w (.string (str (h10 a j))) from fun j w => rNum10 (by have := b4_lt a j; omega))
  have HL := Lib.hid (h10_len a)
  have HG := Lib.hid (Pr.grown_len [46] (h10 a) 256 (by simp) (h10_len a))
  generalize h10 a = h at *
  generalize b4 a = bb at *
  generalize adL a = A at *
  have hH := Hp.refl w
  go_enter Tryz.func14, Tryz.ntmps14
  go_wp2_with (first | ((first | (refine iLi tab_ok rfl ?_ rfl hH ?_; (focus (first | exact wN rfl | exact rfl)); refine ⟨_, _, _, ?_, rfl, rfl, rfl, ?_, ?_⟩; rotate_left; (focus assumption)) | (refine hBx rfl ?_ rfl hH ?_ ?_; (focus (first | exact wN rfl | exact rfl)); (focus (repeat (first | exact trivial | assumption | exact OkA.z (by kernel_rfl) (by kernel_rfl) | refine ⟨rfl, ?_⟩ | refine ⟨?_, ?_⟩))))); clear hH; (first | intro W g hH | intro W hH); ((try simp only [Act.put, pA, pB, pC]))))
  go_loopw [3, 4] (fun s i wr => ∃ (j : Nat), i = .int .i64 (j : Int) ∧ j ≤ 4 ∧ s = .string (str (Pr.grown [46] h j)) ∧ Hp w.heap.size w wr [(_, 24, true, [.many A 17])]) (fun _ i _ => 4 - (intOf i).toNat)
  case atStart => exact ⟨0, rfl, by omega, rfl, hH⟩
  case round =>
    clear hH
    obtain ⟨j, rfl, hj, rfl, hH⟩ := hrel
    have hsz := HG.out j
    have hsz2 := HL.out j
    by_cases h4 : j < 4
    · have d4 : decide ((j : Int) < 4) = true := decide_eq_true (by omega)
      have d5 : decide (j < 4) = true := decide_eq_true (by omega)
      have cj := HC.out j (by omega)
      have fN := HN.out j
      have hb := HB.out j
      generalize bb j = x at *
      by_cases h0 : 0 < j
      · have hS := Lib.hid (Pr.grown_succ [46] h h0)
        have d0 : decide (0 < j) = true := decide_eq_true h0
        generalize Pr.grown [46] h j = S at *
        generalize h j = y at *
        have hs1 : S.length ≤ 2000 := by omega
        go_wp2_with (first | (((first | (refine iLx tab_ok rfl ?_ rfl hH ?_; (focus (first | exact wN rfl | exact rfl)); refine ⟨_, rfl, rfl, ?_, ?_, ?_, ?_, ?_, ?_, ?_⟩; rotate_left 2; (focus assumption); (focus (first | rfl | (push_cast; omega) | omega | (simp; omega))); (focus (first | rfl | assumption)); (focus (repeat (first | exact trivial | assumption | exact OkA.z (by kernel_rfl) (by kernel_rfl) | refine ⟨rfl, ?_⟩ | refine ⟨?_, ?_⟩)))) | (refine iLx1 tab_ok rfl ?_ rfl hH ?_; (focus (first | exact wN rfl | exact rfl)); refine ⟨_, rfl, rfl, ?_, ?_, ?_, ?_, ?_⟩; rotate_left 2; (focus assumption); (focus (first | rfl | omega | (simp; omega))))); (clear hH; intro W hH); (try simp only [Act.put, pA, pB, pC]))) | ((first | ((with_reducible refine callH hH ?_); refine ⟨?_, ?_, ?_⟩; rotate_left; (focus (first | (with_reducible exact fN _))))); clear hH; (first | intro W g hH | intro W hH); ((try simp only [Act.put, pA, pB, pC]))))
        exact ⟨⟨j + 1, by simp, by omega, by rw [hS.out]; show Value.string (str S ++ str [46] ++ str y) = _; rw [str_append, str_append], hH⟩, by simp [intOf]; omega⟩
      · obtain rfl : j = 0 := by omega
        generalize hy : h 0 = y at *
        go_wp2_with (first | (((first | (refine iLx tab_ok rfl ?_ rfl hH ?_; (focus (first | exact wN rfl | exact rfl)); refine ⟨_, rfl, rfl, ?_, ?_, ?_, ?_, ?_, ?_, ?_⟩; rotate_left 2; (focus assumption); (focus (first | rfl | (push_cast; omega) | omega | (simp; omega))); (focus (first | rfl | assumption)); (focus (repeat (first | exact trivial | assumption | exact OkA.z (by kernel_rfl) (by kernel_rfl) | refine ⟨rfl, ?_⟩ | refine ⟨?_, ?_⟩)))) | (refine iLx1 tab_ok rfl ?_ rfl hH ?_; (focus (first | exact wN rfl | exact rfl)); refine ⟨_, rfl, rfl, ?_, ?_, ?_, ?_, ?_⟩; rotate_left 2; (focus assumption); (focus (first | rfl | omega | (simp; omega))))); (clear hH; intro W hH); (try simp only [Act.put, pA, pB, pC]))) | ((first | ((with_reducible refine callH hH ?_); refine ⟨?_, ?_, ?_⟩; rotate_left; (focus (first | (with_reducible exact fN _))))); clear hH; (first | intro W g hH | intro W hH); ((try simp only [Act.put, pA, pB, pC]))))
        exact ⟨⟨1, by simp, by omega, by rw [show Pr.grown [46] h 1 = h 0 from rfl, hy, show Pr.grown [46] h 0 = [] from rfl, str_append, List.nil_append], hH⟩, by simp [intOf]⟩
    · obtain rfl : j = 4 := by omega
      go_wp2_with (fail)
      go_ret
      exact ⟨rfl, hH.below⟩
def atI : Option Nat → Int
  | none => -1
  | some i => i
theorem run_last {S : List UInt8} {c : UInt8} (h : S.length ≤ 10000000) (W : World) : (Instr.index 9 (.string (str (S ++ [c]))) (.int .i64 (S.length : Int))).run Tryz.prog W = .ok (.int .u8 (c.toNat : Int)) W := by
  have hs : (str (S ++ [c])).size = S.length + 1 := by rw [str_size]; simp
  rw [run_idx Tryz.underlying9 _ S.length (by omega) _ rfl W]
  have : (str (S ++ [c]))[S.length]'(by omega) = c := by
    show (S ++ [c]).toArray[S.length]'(by simp) = c
    simp
  rw [this]
set_option maxHeartbeats 4000000 in
theorem rPrint6 (hv : a.v = true) : Gives Tryz.prog 14 #[.agg (fls [.many (adL a) 17]).toArray] w (.string (str (Pr.addrR (h16 a) (zsA a)))) := by
  refine Gives.of ?_
  have oA := adL_ok a
  have zA := adL_0 a
  rw [hv] at zA
  have HC := Lib.hid (fun j (h : j < 16) => cell4 (a := a) h)
  have HB := Lib.hid (b4_lt a)
  have HN := Lib.hid (show ∀ j w, Gives Tryz.prog 32 #[.int .i64 (256 * (b4 a (2 * j) : Int) + (b4 a (2 * j + 1) : Int)), .int .i64 16] w (.string (str (h16 a j))) from fun j w => by
    have := rNum16 (n := wdA a j) (w := w) (by have := b4_lt a (2 * j); have := b4_lt a (2 * j + 1); unfold wdA; omega)
    unfold wdA at this
    rw [show ((256 * b4 a (2 * j) + b4 a (2 * j + 1) : Nat) : Int) = 256 * (b4 a (2 * j) : Int) + (b4 a (2 * j + 1) : Int) by omega] at this
    exact this)
  have HL := Lib.hid (h16_len a)
  have hz := zsA_len a
  have HZ := Lib.hid (fun i (h : i < 8) => zsA_at a h)
  generalize h16 a = h at *
  generalize zsA a = z at *
  generalize b4 a = bb at *
  generalize adL a = A at *
  obtain ⟨res, hres⟩ : ∃ r, Pr.addrR h z = r := ⟨_, rfl⟩
  rw [hres]
  unfold Pr.addrR at hres
  obtain ⟨RR, hRR⟩ : ∃ r, Pr.rowR z 9 0 (none, 1) = r := ⟨_, rfl⟩
  rw [hRR] at hres
  have hok := Pr.rowR_ok z hz 9 0 (none, 1) (by simp)
  rw [hRR] at hok
  have HRES := Lib.hid hres
  have HOK := Lib.hid hok
  have HRR := Lib.hid hRR
  have HR := Lib.hid (fun i k => Pr.runAt_lt (z := z) (i := i) (k := k) hz)
  have HM := Lib.hid (fun i => Pr.runAt_le z i hz)
  clear hres hok hRR hz
  have hH := Hp.refl w
  go_enter Tryz.func14, Tryz.ntmps14
  go_wp2_with (first | ((first | (refine iLi tab_ok rfl ?_ rfl hH ?_; (focus (first | exact wN rfl | exact rfl)); refine ⟨_, _, _, ?_, rfl, rfl, rfl, ?_, ?_⟩; rotate_left; (focus assumption)) | (refine hBx rfl ?_ rfl hH ?_ ?_; (focus (first | exact wN rfl | exact rfl)); (focus (repeat (first | exact trivial | assumption | exact OkA.z (by kernel_rfl) (by kernel_rfl) | refine ⟨rfl, ?_⟩ | refine ⟨?_, ?_⟩))))); clear hH; (first | intro W g hH | intro W hH); ((try simp only [Act.put, pA, pB, pC]))))
  go_loopw [5, 6, 7] (fun t n i wr => ∃ (j f : Nat) (o : Option Nat) (m : Nat), i = .int .i64 (j : Int) ∧ j ≤ 8 ∧ t = .int .i64 (atI o) ∧ n = .int .i64 (m : Int) ∧ 1 ≤ m ∧ m ≤ 8 ∧ 9 ≤ f + j ∧ Pr.rowR z f j (o, m) = RR ∧ Hp w.heap.size w wr [(_, 24, true, [.many A 17])]) (fun _ _ i _ => 8 - (intOf i).toNat)
  case atStart => exact ⟨0, 9, none, 1, rfl, by omega, rfl, rfl, by omega, by omega, by omega, HRR.out, hH⟩
  case round =>
    clear hH
    obtain ⟨j, f, o, m, rfl, hj, rfl, rfl, hm1, hm8, hf, hR, hH⟩ := hrel
    by_cases h8 : j < 8
    · have d8 : decide (j < 8) = true := decide_eq_true h8
      obtain ⟨f', rfl⟩ : ∃ k, f = k + 1 := ⟨f - 1, by omega⟩
      rw [Pr.rowR, if_pos h8] at hR
      have hle := HM.out j
      have HRj := Lib.hid (HR.out j)
      have HR1 := Lib.hid hR
      clear hR
      generalize Pr.runAt z j = run at *
      obtain ⟨oi, hoi⟩ : ∃ x, atI o = x := ⟨_, rfl⟩
      rw [hoi]
      have HOI := Lib.hid hoi
      clear hoi
      go_wp2_with (fail)
      go_loopw [8] (fun k wr => ∃ q : Nat, k = .int .i64 (q : Int) ∧ q ≤ run ∧ Hp w.heap.size w wr [(_, 24, true, [.many A 17])]) (fun k _ => 8 - (intOf k).toNat)
      case atStart => exact ⟨0, rfl, by omega, hH⟩
      case round =>
        clear hH
        obtain ⟨q, rfl, hq, hH⟩ := hrel
        have HE := Lib.hid (HRj.out q hq)
        by_cases hgo : q < run
        · have hh := HE.out.1 hgo
          have d1 : decide (j + q < 8) = true := decide_eq_true hh.1
          have c1 := hh.1
          have hxy := (HZ.out (j + q) hh.1).1 hh.2
          have cx := HC.out (2 * (j + q)) (by omega)
          have cy := HC.out (2 * (j + q) + 1) (by omega)
          rw [hxy.1] at cx
          rw [hxy.2] at cy
          clear hh hxy
          go_wp2_with (first | ((refine gL rfl ?_; refine hLx1 0 tab_ok rfl ?_ rfl hH rfl rfl rfl ?_; (focus (first | exact wN rfl | exact rfl)); (first | refine ⟨_, _, cx, rfl, ?_⟩ | refine ⟨_, _, cy, rfl, ?_⟩); (clear hH; intro W hH); ((try simp only [Act.put, pA, pB, pC])))))
          exact ⟨⟨q + 1, by simp, by omega, hH⟩, by simp [intOf]; omega⟩
        · obtain rfl : q = run := by omega
          have hq8 : j + q ≤ 8 := by omega
          have hlv : (8 ≤ j + q ∧ decide (j + q < 8) = false ∧ decide ((j : Int) + (q : Int) < 8) = false) ∨ (∃ x : Nat, j + q < 8 ∧ decide (j + q < 8) = true ∧ CellA A (1 + 2 * (j + q)) (.int .u8 (x : Int)) ∧ ((x : Int) == 0) = false) ∨ (∃ y : Nat, j + q < 8 ∧ decide (j + q < 8) = true ∧ CellA A (1 + 2 * (j + q)) (.int .u8 ((0 : Nat) : Int)) ∧ CellA A (1 + (2 * (j + q) + 1)) (.int .u8 (y : Int)) ∧ ((y : Int) == 0) = false) := by
            by_cases c1 : j + q < 8
            · have cx := HC.out (2 * (j + q)) (by omega)
              have cy := HC.out (2 * (j + q) + 1) (by omega)
              by_cases hx : bb (2 * (j + q)) = 0
              · by_cases hy : bb (2 * (j + q) + 1) = 0
                · exact absurd (HE.out.2 ⟨c1, (HZ.out _ c1).2 ⟨hx, hy⟩⟩) hgo
                · rw [hx] at cx
                  exact .inr (.inr ⟨_, c1, decide_eq_true c1, cx, cy, by rw [beq_eq_false_iff_ne]; omega⟩)
              · exact .inr (.inl ⟨_, c1, decide_eq_true c1, cx, by rw [beq_eq_false_iff_ne]; omega⟩)
            · exact .inl ⟨by omega, decide_eq_false c1, decide_eq_false (by omega)⟩
          clear HE hgo HRj
          have HR2 := HR1.out
          clear HR1
          by_cases hm : m < q
          · have dm : decide (m < q) = true := decide_eq_true hm
            rw [if_pos hm] at HR2
            have HR3 := Lib.hid HR2
            clear HR2
            rcases hlv with ⟨c1, d1, d2⟩ | ⟨x, c1, d1, cx, tx⟩ | ⟨x, c1, d1, cx, cy, tx⟩
            all_goals (
              go_wp2_with (first | ((refine gL rfl ?_; refine hLx1 0 tab_ok rfl ?_ rfl hH rfl rfl rfl ?_; (focus (first | exact wN rfl | exact rfl)); (first | refine ⟨_, _, cx, rfl, ?_⟩ | refine ⟨_, _, cy, rfl, ?_⟩); (clear hH; intro W hH); ((try simp only [Act.put, pA, pB, pC])))))
              all_goals exact ⟨⟨j + 1, f', some j, q, by simp, by omega, rfl, rfl, by omega, by omega, by omega, HR3.out, hH⟩, by simp [intOf]; omega⟩)
          · have dm : decide (m < q) = false := decide_eq_false hm
            rw [if_neg hm] at HR2
            have HR3 := Lib.hid HR2
            clear HR2
            rcases hlv with ⟨c1, d1, d2⟩ | ⟨x, c1, d1, cx, tx⟩ | ⟨x, c1, d1, cx, cy, tx⟩
            all_goals (
              go_wp2_with (first | ((refine gL rfl ?_; refine hLx1 0 tab_ok rfl ?_ rfl hH rfl rfl rfl ?_; (focus (first | exact wN rfl | exact rfl)); (first | refine ⟨_, _, cx, rfl, ?_⟩ | refine ⟨_, _, cy, rfl, ?_⟩); (clear hH; intro W hH); ((try simp only [Act.put, pA, pB, pC])))))
              all_goals exact ⟨⟨j + 1, f', o, m, by simp, by omega, by rw [HOI.out], rfl, by omega, by omega, by omega, HR3.out, hH⟩, by simp [intOf]; omega⟩)
    · obtain rfl : j = 8 := by omega
      obtain ⟨f', rfl⟩ : ∃ k, f = k + 1 := ⟨f - 1, by omega⟩
      rw [Pr.rowR, if_neg (by omega)] at hR
      subst hR
      clear HR HM HRR
      go_wp2_with (fail)
      go_loopw [3, 9] (fun s i wr => ∃ (j f : Nat) (S : List UInt8), i = .int .i64 (j : Int) ∧ j ≤ 16 ∧ s = .string (str S) ∧ 9 ≤ f + j ∧ Pr.strRgo h (o, m) f j S = res ∧ S.length ≤ j * 70000 ∧ Hp w.heap.size w wr [(_, 24, true, [.many A 17])]) (fun _ i _ => 16 - (intOf i).toNat)
      case atStart => exact ⟨0, 9, [], rfl, by omega, rfl, by omega, HRES.out, by simp, hH⟩
      case round =>
        clear hH HRES
        obtain ⟨j, f, S, rfl, hj, rfl, hf, hS, hSl, hH⟩ := hrel
        have hom := HOK.out
        by_cases h8 : j < 8
        · have d8 : decide (j < 8) = true := decide_eq_true h8
          obtain ⟨f', rfl⟩ : ∃ k, f = k + 1 := ⟨f - 1, by omega⟩
          have hfj : 8 ≤ f' + j := by omega
          rw [Pr.strRgo, if_pos h8] at hS
          have hSl1 : S.length ≤ 1000000 := by omega
          by_cases ho : some j = o
          · rw [if_pos ho] at hS
            have HS := Lib.hid hS
            have te : ((j : Int) == atI o) = true := by rw [← ho]; simp [atI]
            generalize atI o = oi at *
            clear hS ho HN HL HB HC
            go_wp2_with (fail)
            exact ⟨⟨j + m, f', S ++ [58, 58], by go_num, by omega, by show Value.string (str S ++ str [58, 58]) = _; rw [str_append], by omega, HS.out, by rw [List.length_append]; simp only [List.length_cons, List.length_nil]; omega, hH⟩, by simp [intOf]; omega⟩
          · rw [if_neg ho] at hS
            have te : ((j : Int) == atI o) = false := by
              rw [beq_eq_false_iff_ne]
              intro e
              apply ho
              cases o with
              | none => simp only [atI] at e; omega
              | some k => simp only [atI] at e; congr 1; omega
            generalize atI o = oi at *
            have cx := HC.out (2 * j) (by omega)
            have cy := HC.out (2 * j + 1) (by omega)
            have bx := HB.out (2 * j)
            have bY := HB.out (2 * j + 1)
            have fN := HN.out j
            have hhl := HL.out j
            generalize bb (2 * j) = x at *
            generalize bb (2 * j + 1) = y at *
            clear ho HN HL HB HC
            rcases List.eq_nil_or_concat S with rfl | ⟨L, c, rfl⟩
            · have e0 := str_e
              rw [if_neg (by simp)] at hS
              have HS := Lib.hid hS
              clear hS
              generalize h j = D at *
              go_wp2_with (fail)
              ((with_reducible refine regQ hH (by kernel_rfl) (by kernel_rfl) ?_); intro hne; (repeat (first | (go_big_quiet_want; (first | ((refine qLx1 0 tab_ok rfl rfl rfl rfl rfl ?_; (first | refine ⟨_, _, cx, rfl, ?_⟩ | refine ⟨_, _, cy, rfl, ?_⟩)))); (try simp only [Act.put, pA, pB, pC]); go_big_quiet_on) | go_big_quiet_step (((with_reducible apply callQ); first | (with_reducible exact fN _))))); refine wpQuiet_nil ?_; clear hne hH; intro W hH)
              go_wp2_with (fail)
              exact ⟨⟨j + 1, f', [] ++ D, by go_num, by omega, by rw [str_append], by omega, HS.out, by simp only [List.nil_append]; omega, hH⟩, by simp [intOf]; omega⟩
            · rw [List.concat_eq_append] at *
              have hLl : L.length ≤ 1000000 := by simp only [List.length_append, List.length_cons, List.length_nil] at hSl1; omega
              have hSl2 : L.length + 1 ≤ j * 70000 := by simp only [List.length_append, List.length_cons, List.length_nil] at hSl; omega
              have hix := run_last (S := L) (c := c) (by omega)
              have e0 : (str (L ++ [c])).toList.isEmpty = false := notEmpty (by rw [str_size]; simp)
              have hsz : (str (L ++ [c])).size = L.length + 1 := by rw [str_size]; simp
              have hSn := Lib.hid (show (L ++ [c]).length ≤ L.length + 1 by simp)
              clear hSl hSl1
              by_cases hc : c = 58
              · subst hc
                rw [if_neg (by simp)] at hS
                have HS := Lib.hid hS
                clear hS
                have tc : (((58 : UInt8).toNat : Int) != 58) = false := rfl
                generalize L ++ [(58 : UInt8)] = S at *
                generalize h j = D at *
                go_wp2_with (fail)
                ((with_reducible refine regQ hH (by kernel_rfl) (by kernel_rfl) ?_); intro hne; (repeat (first | (go_big_quiet_want; (first | ((refine qLx1 0 tab_ok rfl rfl rfl rfl rfl ?_; (first | refine ⟨_, _, cx, rfl, ?_⟩ | refine ⟨_, _, cy, rfl, ?_⟩)))); (try simp only [Act.put, pA, pB, pC]); go_big_quiet_on) | go_big_quiet_step (((with_reducible apply callQ); first | (with_reducible exact fN _))))); refine wpQuiet_nil ?_; clear hne hH; intro W hH)
                go_wp2_with (fail)
                exact ⟨⟨j + 1, f', S ++ D, by go_num, by omega, by rw [str_append], by omega, HS.out, by have := hSn.out; rw [List.length_append]; omega, hH⟩, by simp [intOf]; omega⟩
              · rw [if_pos (by simpa using hc)] at hS
                have HS := Lib.hid hS
                clear hS
                have tc : ((c.toNat : Int) != 58) = true := by
                  have : c.toNat ≠ 58 := fun e => hc (UInt8.toNat.inj e)
                  simp; omega
                generalize hcn : c.toNat = cn at *
                generalize L ++ [c] = S at *
                generalize h j = D at *
                clear hcn hc
                go_wp2_with (fail)
                ((with_reducible refine regQ hH (by kernel_rfl) (by kernel_rfl) ?_); intro hne; (repeat (first | (go_big_quiet_want; (first | ((refine qLx1 0 tab_ok rfl rfl rfl rfl rfl ?_; (first | refine ⟨_, _, cx, rfl, ?_⟩ | refine ⟨_, _, cy, rfl, ?_⟩)))); (try simp only [Act.put, pA, pB, pC]); go_big_quiet_on) | go_big_quiet_step (((with_reducible apply callQ); first | (with_reducible exact fN _))))); refine wpQuiet_nil ?_; clear hne hH; intro W hH)
                go_wp2_with (fail)
                exact ⟨⟨j + 1, f', S ++ [58] ++ D, by go_num, by omega, by show Value.string (str S ++ str [58] ++ str D) = _; rw [str_append, str_append], by omega, HS.out, by have := hSn.out; simp only [List.length_append, List.length_cons, List.length_nil]; omega, hH⟩, by simp [intOf]; omega⟩
        · have d8 : decide (j < 8) = false := decide_eq_false h8
          have hS2 : S = res := by
            cases f with
            | zero => exact hS
            | succ f => rw [Pr.strRgo, if_neg h8] at hS; exact hS
          subst hS2
          clear hS HN HL HB HC HZ
          generalize atI o = oi at *
          go_wp2_with (fail)
          go_ret
          exact ⟨rfl, hH.below⟩
theorem rPrint_any : Gives Tryz.prog 14 #[.agg (fls [.many (adL a) 17]).toArray] w (.string (str (txtA a))) := by
  unfold txtA
  cases hv : a.v
  · exact rPrint4 hv
  · exact rPrint6 hv
end
theorem txtA_len (a : Ad) : (txtA a).length ≤ 600000 := by
  unfold txtA
  split
  · have := Pr.strRgo_len (h16 a) (Pr.rowR (zsA a) 9 0 (none, 1)) 65536 (h16_len a) 9 0 []
    simp only [List.length_nil] at this
    unfold Pr.addrR; omega
  · have := Pr.grown_len [46] (h10 a) 256 (by simp) (h10_len a) 4
    omega
end
section
open Go.ChangeShapes Go.WideShapes Go.ChangeAt Go.RowKit
set_option linter.unusedVariables false
set_option linter.unusedSimpArgs false
set_option maxRecDepth 20000
attribute [local irreducible] wpList

def txtL (L : List Ad) : List UInt8 := if L.length = 0 then [45] else Pr.grown [44] (fun i => txtA (L.getD i Ad.z)) L.length
def txtF (ex : Bool) (L : List Ad) : List UInt8 := (if ex then [101, 120, 32] else [105, 110, 32]) ++ txtL L
theorem txtG_len (L : List Ad) (n : Nat) : (Pr.grown [44] (fun i => txtA (L.getD i Ad.z)) n).length ≤ n * 600001 :=
  Pr.grown_len [44] _ 600000 (by simp) (fun i => txtA_len _) n
theorem txtL_len (L : List Ad) (h : L.length ≤ 1000) : (txtL L).length ≤ 600001000 := by
  have := txtG_len L L.length
  unfold txtL
  split
  · simp
  · omega
section
variable {w : World} {p : Option Addr} {c : Nat} {L : List Ad}
set_option maxHeartbeats 1000000 in
theorem rPrintL (hm : L.length ≤ 1000) (h : AdsAt w p L) : Gives Tryz.prog 33 #[.slice p L.length c] w (.string (str (txtL L))) := by
  refine Gives.of ?_
  have HA := Lib.hid h
  clear h
  have HG := Lib.hid (txtG_len L)
  have hH := Hp.refl w
  unfold txtL
  by_cases h0 : L.length = 0
  · rw [if_pos h0, h0]
    clear HG HA h0
    go_enter Tryz.func33, Tryz.ntmps33
    go_wp2_with (fail)
    go_ret
    exact ⟨rfl, hH.below⟩
  rw [if_neg h0]
  have d0 : ((L.length : Int) == 0) = false := by rw [beq_eq_false_iff_ne]; omega
  have HT := Lib.hid (show ∀ (j : Nat) (hj : j < L.length), txtA L[j] = (fun i => txtA (L.getD i Ad.z)) j from fun j hj => by simp only; rw [List.getD_eq_getElem?_getD, List.getElem?_eq_getElem hj]; rfl)
  generalize (fun i => txtA (L.getD i Ad.z)) = h at *
  go_enter Tryz.func33, Tryz.ntmps33
  go_wp2_with (fail)
  go_loopw [3, 4] (fun s i wr => ∃ (j : Nat), i = .int .i64 (j : Int) ∧ j ≤ L.length ∧ s = .string (str (Pr.grown [44] h j)) ∧ Hp w.heap.size w wr []) (fun _ i _ => L.length - (intOf i).toNat)
  case atStart => exact ⟨0, rfl, by omega, rfl, hH⟩
  case round =>
    clear hH
    obtain ⟨j, rfl, hj, rfl, hH⟩ := hrel
    have hsz := HG.out j
    by_cases hjl : j < L.length
    · obtain ⟨a, ha, fA, _⟩ := HA.out.get hjl
      subst ha
      have dj : decide (j < L.length) = true := decide_eq_true hjl
      have hT := HT.out j hjl
      have hlen := txtA_len L[j]
      have oA := adL_ok L[j]
      have fP : ∀ w, Gives Tryz.prog 14 #[.agg (fls [.many (adL L[j]) 17]).toArray] w (.string (str (txtA L[j]))) := fun w => rPrint_any
      generalize txtA L[j] = D at *
      generalize adL L[j] = Y at *
      have hjk : j < 1000 := by omega
      by_cases hj0 : 0 < j
      · have hS := Lib.hid (Pr.grown_succ [44] h hj0)
        have dz : decide (0 < j) = true := decide_eq_true hj0
        have HTT := Lib.hid hT
        clear hT HT HA HG
        generalize Pr.grown [44] h j = S at *
        have hs1 : S.length ≤ 600001000 := by omega
        go_wp2_with (first | ((refine gL rfl ?_; refine hLoR tab_ok rfl ?_ rfl hH rfl rfl ?_; (focus (first | exact wN rfl | exact rfl)); refine ⟨_, fA, ⟨oA, trivial⟩, rfl, ?_⟩; (clear hH; (first | intro W g hH | intro W hH); (try simp only [Act.put, pA, pB, pC])))) | ((first | ((with_reducible refine callH hH ?_); refine ⟨?_, ?_, ?_⟩; rotate_left; (focus (first | (with_reducible exact fP _))))); clear hH; (first | intro W g hH | intro W hH); ((try simp only [Act.put, pA, pB, pC]))))
        exact ⟨⟨j + 1, by simp, by omega, by rw [hS.out, ← HTT.out]; show Value.string (str S ++ str [44] ++ str D) = _; rw [str_append, str_append], hH⟩, by simp [intOf]; omega⟩
      · obtain rfl : j = 0 := by omega
        have HTT := Lib.hid hT
        clear hT HT HA HG
        go_wp2_with (first | ((refine gL rfl ?_; refine hLoR tab_ok rfl ?_ rfl hH rfl rfl ?_; (focus (first | exact wN rfl | exact rfl)); refine ⟨_, fA, ⟨oA, trivial⟩, rfl, ?_⟩; (clear hH; (first | intro W g hH | intro W hH); (try simp only [Act.put, pA, pB, pC])))) | ((first | ((with_reducible refine callH hH ?_); refine ⟨?_, ?_, ?_⟩; rotate_left; (focus (first | (with_reducible exact fP _))))); clear hH; (first | intro W g hH | intro W hH); ((try simp only [Act.put, pA, pB, pC]))))
        exact ⟨⟨1, by simp, by omega, by rw [show Pr.grown [44] h 1 = h 0 from rfl, ← HTT.out, show Pr.grown [44] h 0 = [] from rfl, str_append, List.nil_append], hH⟩, by simp [intOf]; omega⟩
    · obtain rfl : j = L.length := by omega
      have dj : decide (L.length < L.length) = false := decide_eq_false hjl
      go_wp2_with (fail)
      go_ret
      exact ⟨rfl, hH.below⟩
theorem rPrintF {ex : Bool} (hm : L.length ≤ 1000) (h : AdsAt w p L) : Gives Tryz.prog 15 #[.agg (fls (flS ex p L.length c)).toArray] w (.string (str (txtF ex L))) := by
  refine Gives.of ?_
  have hH := Hp.refl w
  have HA := Lib.hid h
  clear h
  have F := Lib.hid (fun W (hb : Below w.heap.size w W) => rPrintL (c := c) hm (HA.out.below hb))
  have hl := txtL_len L hm
  clear HA
  unfold flS txtF
  generalize txtL L = T at *
  generalize L.length = n at *
  cases ex
  · have e := Lib.hid (show str [105, 110, 32] ++ str T = str ([105, 110, 32] ++ T) by rw [str_append])
    go_enter Tryz.func15, Tryz.ntmps15
    go_wp2_with (first | ((first | (refine iL tab_ok rfl ?_ rfl hH ?_; (focus (first | exact wN rfl | exact rfl)); refine ⟨_, _, rfl, rfl, ?_⟩) | (refine hBx rfl ?_ rfl hH ?_ ?_; (focus (first | exact wN rfl | exact rfl)); (focus (repeat (first | exact trivial | assumption | exact OkA.z (by kernel_rfl) (by kernel_rfl) | refine ⟨rfl, ?_⟩ | refine ⟨?_, ?_⟩)))) | ((with_reducible refine callH hH ?_); refine ⟨?_, ?_, ?_⟩; rotate_left; (focus (first | (exact F.out _ hH.below))))); clear hH; (first | intro W g hH | intro W hH); ((try simp only [Act.put, pA, pB, pC]))))
    go_ret
    exact ⟨congrArg (fun x => Ending.returned (Value.string x)) e.out, hH.below⟩
  · have e := Lib.hid (show str [101, 120, 32] ++ str T = str ([101, 120, 32] ++ T) by rw [str_append])
    go_enter Tryz.func15, Tryz.ntmps15
    go_wp2_with (first | ((first | (refine iL tab_ok rfl ?_ rfl hH ?_; (focus (first | exact wN rfl | exact rfl)); refine ⟨_, _, rfl, rfl, ?_⟩) | (refine hBx rfl ?_ rfl hH ?_ ?_; (focus (first | exact wN rfl | exact rfl)); (focus (repeat (first | exact trivial | assumption | exact OkA.z (by kernel_rfl) (by kernel_rfl) | refine ⟨rfl, ?_⟩ | refine ⟨?_, ?_⟩)))) | ((with_reducible refine callH hH ?_); refine ⟨?_, ?_, ?_⟩; rotate_left; (focus (first | (exact F.out _ hH.below))))); clear hH; (first | intro W g hH | intro W hH); ((try simp only [Act.put, pA, pB, pC]))))
    go_ret
    exact ⟨congrArg (fun x => Ending.returned (Value.string x)) e.out, hH.below⟩
end
end
end Go.Proofs.YtjegjgdihpihoaaGreatDoor
