/-
  Joined texts: Mem, Oct, Read, Sum.
-/
import Derived.Test.YtdnehjhijmeihaaGreatQNum
import Derived.Laws.BytesArg
import Derived.Laws.MakeOwn
import Derived.Test.YtdnehjhijmeihaaGreatRows
namespace Go.Proofs.YtdnehjhijmeihaaGreat
open Go.RowKit
set_option linter.unusedVariables false
def Row (w : World) (g : Nat) (t : TypeId) (cs : Array Value) : Prop := w.heap[g]? = some (.cells cs t (0, 0))
section
variable {w w' : World} {g : Nat} {t : TypeId} {cs : Array Value}
theorem Row.lt (h : Row w g t cs) : g < w.heap.size := by
  unfold Row at h
  by_cases hlt : g < w.heap.size
  · exact hlt
  · rw [Array.getElem?_eq_none (by omega)] at h
    cases h
theorem Row.cell (h : Row w g t cs) (i : Nat) : w.cell? ⟨g, i, none⟩ = cs[i]? := cell_of_row w g i cs t (0, 0) h
theorem Row.frozen (h : Row w g t cs) (i : Nat) : w.frozen? ⟨g, i, none⟩ = false := frozen_of_row w g i cs t h
theorem Row.new (w : World) (t : TypeId) (cs : Array Value) : Row (w.alloc (.cells cs t)) w.heap.size t cs := heap_alloc_new w _
theorem Row.drew (h : Row w g t cs) : Row w.drew g t cs := h
theorem Row.alloc (h : Row w g t cs) (o : Obj) : Row (w.alloc o) g t cs := (Below.heap_alloc w o g h.lt).trans h
theorem Row.set (h : Row w g t cs) (i : Nat) (u : Value) : Row (w.setCell ⟨g, i, none⟩ u) g t (cs.setIfInBounds i u) := heap_setCell_same w g i cs t u h
theorem Row.far (h : Row w g t cs) {p : Addr} (hp : g ≠ p.block) (u : Value) : Row (w.setCell p u) g t cs := (heap_setCell_other w p g u hp).trans h
theorem Row.below {B : Nat} (h : Row w g t cs) (hb : Below B w w') (hg : g < B) : Row w' g t cs := (hb.block g hg).trans h
theorem Row.bw {B : Nat} {x : BW B w} (h : Row w g t cs) (hg : g < B) : Row x.w g t cs := h.below x.below hg
end

theorem own_below {w w' : World} {base : Nat} {e : TypeId} {size n : Nat} {v : Value} {xs : List Value} (h : w.ownsRow base e size v n xs) (hb : Below w.heap.size w w') : w'.ownsRow base e size v n xs := by
  obtain ⟨h1, h2⟩ := h
  refine ⟨h1, ?_⟩
  rcases h2 with h2 | ⟨g, cap, cur, hv, hg, hh, r⟩
  · exact .inl h2
  · exact .inr ⟨g, cap, cur, hv, hg, (hb.block g (Row.lt (t := e) (cs := cur) hh)).trans hh, r⟩
theorem gb_set {a w : World} {g : Nat} (h : a.grownBy w (some g)) (i : Nat) (u : Value) : a.grownBy (w.setCell ⟨g, i, none⟩ u) (some g) :=
  ⟨h.os, h.tape, h.output, by simpa [World.setCell] using h.size, fun k hk hne => (Below.heap_setCell w ⟨g, i, none⟩ u k (fun e => hne (by rw [e]))).trans (h.block k hk hne)⟩
theorem gb_drewN {a w : World} {row : Option Nat} (h : a.grownBy w row) (n : Nat) : a.grownBy (w.drewN n) row := ⟨h.os, h.tape, h.output, h.size, h.block⟩
theorem gb_trans {a b c : World} {g : Nat} (h : a.grownBy b (some g)) (k : b.grownBy c (some g)) : a.grownBy c (some g) :=
  ⟨k.os.trans h.os, k.tape.trans h.tape, k.output.trans h.output, Nat.le_trans h.size k.size, fun i hi hne => (k.block i (Nat.lt_of_lt_of_le hi h.size) hne).trans (h.block i hi hne)⟩
theorem gb_below {a w : World} {g : Nat} (h : Below a.heap.size a w) : a.grownBy w (some g) := ⟨h.os, h.tape, h.output, h.size, fun i hi _ => h.block i hi⟩
theorem below_gb {B : Nat} {a b c : World} {g : Nat} (h : Below B a b) (k : b.grownBy c (some g)) (hg : B ≤ g) (hB : B ≤ b.heap.size) : Below B a c :=
  h.grown k hB (fun i hi => by injection hi with hi; omega)
def Elem1 (P : Program) (t e : TypeId) (bytes : Nat) : Prop := P.underlying t = some (.slice e) ∧ ∃ i z, P.info? e = some i ∧ i.zero = some z ∧ i.size = 1 ∧ i.bytes = bytes ∧ z.cells.size = 1
theorem elem1_mk {P : Program} {t e : TypeId} {bytes : Nat} {z : Value} (h : P.underlying t = some (.slice e)) (hi : (P.info? e).map (fun i => (i.zero, i.size, i.bytes)) = some (some z, 1, bytes)) (hz : z.cells.size = 1) : Elem1 P t e bytes := by
  obtain ⟨i, h1, h2, h3, h4⟩ := info_parts hi
  exact ⟨h, i, z, h1, h2, h3, h4, hz⟩

theorem wpList_app1 {P : Program} {ops : Array Oper} {rest : List Oper} {o : Oper} {a : Act} {Q : Exit → Act → World → Prop} {t e : TypeId} {bytes : Nat} (hE : Elem1 P t e bytes) (hgd : o.guard = none) (s x : Operand)
    (ho : o.op = .call { callee := .builtin .append, args := #[s, x], argTypes := #[t, t] })
    {base : Nat} {v u : Value} {n : Nat} {xs : List Value} {w : World} (hs : a.eval s = v) (hx : a.eval x = .slice (some ⟨w.heap.size, 0, none⟩) 1 1)
    (hown : w.ownsRow base e 1 v n xs) (h1 : u.oneCell' = true) (hn : (n + 1) * bytes ≤ 140737488355328) (h63 : n + 1 ≤ maxLen) (hbase : base ≤ w.heap.size)
    (h : ∀ v' w', w'.ownsRow base e 1 v' (n + 1) (xs ++ [u]) → Below base w w' → wpList P ops Q rest (a.put o.dst v') w') : wpList P ops Q (o :: rest) a (w.alloc (.cells #[u] e)) := by
  obtain ⟨ht, i, z, hi, hz, hsz, hby, hzs⟩ := hE
  refine wpList_append_own (w.alloc (.cells #[u] e)) hgd s x t ho base e i z 1 bytes ht hi hz hsz hby hzs (by omega) v n xs hs (hown.alloc _) ⟨w.heap.size, 0, none⟩ 1 1 [u] hx rfl ?_ ?_ h63 hn (by simp; omega) ?_
  · intro j y hy
    cases j with
    | zero =>
      simp at hy
      subst hy
      rw [show (⟨w.heap.size, 0, none⟩ : Addr).add 0 = ⟨w.heap.size, 0, none⟩ from rfl, (Row.new w e #[u]).cell]
      rfl
    | succ j => simp at hy
  · intro y hy
    simp at hy
    subst hy
    exact h1
  · intro v' w' ho' hg _
    refine h v' w' ho' (((Below.refl base w).alloc hbase _).grown hg (by simp; omega) ?_)
    intro k hk
    rcases hown.2 with ⟨rfl, _⟩ | ⟨g, cap, cur, rfl, hg', _⟩
    · cases hk
    · injection hk with hk
      subst hk
      exact hg'

theorem run_idx {P : Program} {t : TypeId} (ht : P.underlying t = some .string) (s : ByteArray) (i : Nat) (h : i < s.size) (x : Int) (hx : x = (i : Int)) (W : World) :
    (Instr.index t (.string s) (.int .i64 x)).run P W = .ok (.int .u8 (s[i].toNat : Int)) W := by
  subst hx
  rw [run_index_string W t s .i64 _ ht, dif_pos (by omega)]
  rfl
def byteV (b : UInt8) : Value := .int .u8 (b.toNat : Int)
theorem strOf_bytes (l : List UInt8) : strOfNums (l.map fun b => (b.toNat : Int)) = str l := by
  apply data_inj
  rw [strOfNums_data, str_toList, List.map_map]
  have : ∀ l : List UInt8, l.map ((fun n : Int => UInt8.ofNat n.toNat) ∘ fun b => (b.toNat : Int)) = l := by
    intro l
    induction l with
    | nil => rfl
    | cons b l ih => rw [List.map_cons, ih]; simp
  exact this l
theorem run_str_of {P : Program} {w : World} {src e dst : TypeId} (hs : P.underlying src = some (.slice e)) (he : P.underlying e = some (.int .u8)) (hd : P.underlying dst = some .string)
    {g off len cap : Nat} {l : List UInt8} (hl : l.length = len) (hc : ∀ i b, l[i]? = some b → w.cell? ⟨g, off + i, none⟩ = some (byteV b)) :
    (convert src dst (.slice (some ⟨g, off, none⟩) len cap)).run P w = .ok (.string (str l)) w := by
  rw [← strOf_bytes]
  refine run_convert_bytes_arg w src e hs he g off len cap _ (by simpa using hl) (fun i hi => ?_) dst hd
  have hb : l[i]? = some l[i] := List.getElem?_eq_getElem (by omega)
  rw [hc i _ hb]
  simp [byteV, List.getD, hb]
theorem run_str_own {P : Program} {w : World} {src e dst : TypeId} (hs : P.underlying src = some (.slice e)) (he : P.underlying e = some (.int .u8)) (hd : P.underlying dst = some .string)
    {base n : Nat} {v : Value} {l : List UInt8} (hown : w.ownsRow base e 1 v n (l.map byteV)) : (convert src dst v).run P w = .ok (.string (str l)) w := by
  have hlen : l.length = n := by simpa using hown.1
  rcases hown.2 with ⟨rfl, rfl⟩ | ⟨g, cap, cur, rfl, _, hh, _, _, hsz, hcur⟩
  · obtain rfl : l = [] := List.eq_nil_of_length_eq_zero hlen
    exact run_convert_bytes_nil w src e hs he 0 0 dst hd
  · refine run_str_of hs he hd hlen (fun i b hb => ?_)
    rw [Nat.zero_add, cell_of_row w g i cur e (0, 0) hh]
    have h1 : (l.map byteV)[i]? = some (byteV b) := by simp [hb]
    rw [← hcur] at h1
    have hi : i < l.length := (List.getElem?_eq_some_iff.1 hb).1
    rw [List.getElem?_take_of_lt (by omega)] at h1
    simpa using h1

theorem run_make1 {P : Program} {t e : TypeId} {bytes : Nat} (hE : Elem1 P t e bytes) {z : Value} (hz : (P.info? e).bind (·.zero) = some z) (hz1 : z.cells = #[z]) (n c : Nat) (hnc : n ≤ c) (hb : bytes * c ≤ 281474976710656) (h63 : c ≤ 9223372036854775807) (w : World) :
    (Instr.makeSlice t (.int .i64 (n : Int)) (.int .i64 (c : Int))).run P w = .ok (.slice (some ⟨w.heap.size, 0, none⟩) n c) (w.alloc (.cells (List.replicate c z).toArray e)) := by
  obtain ⟨ht, i, z', hi, hz', hsz, hby, _⟩ := hE
  have : z' = z := by rw [hi] at hz; simpa [hz'] using hz
  subst this
  have h := run_make (P := P) w t e i z' ht hi hz' .i64 .i64 (n : Int) (c : Int) (by omega) (by omega) (by rw [hby]; omega) (by omega)
  rw [Int.toNat_natCast, Int.toNat_natCast, hsz, Nat.mul_one, hz1] at h
  rw [h]
  congr 3
  rw [← toList_madeCells_one]
end Go.Proofs.YtdnehjhijmeihaaGreat
namespace Go.Proofs.YtdnehjhijmeihaaGreat
open Go.ChangeShapes Go.WideShapes Go.ChangeAt Go.RowKit
set_option linter.unusedVariables false
set_option linter.unusedSimpArgs false
theorem elemU8 : Elem1 Tryz.prog 114 5 1 := elem1_mk Tryz.underlying114 (z := .int .u8 0) (by kernel_rfl) rfl
def within (n lo hi : Int) : Int := if n < lo then lo else if hi < n then hi else n
theorem within_in {n lo hi : Int} (h : lo ≤ n) (h' : n ≤ hi) : within n lo hi = n := by unfold within; rw [if_neg (by omega), if_neg (by omega)]
theorem within_bd {n lo hi : Int} (h : lo ≤ hi) : lo ≤ within n lo hi ∧ within n lo hi ≤ hi := by
  unfold within
  split
  · omega
  · split <;> omega
def wn (n : Int) (m : Nat) : Nat := (within n 0 m).toNat
theorem wn_le (n : Int) (m : Nat) : wn n m ≤ m := by have := within_bd (n := n) (lo := 0) (hi := m) (by omega); unfold wn; omega
theorem wn_cast (n : Int) (m : Nat) : within n 0 m = (wn n m : Int) := by have := within_bd (n := n) (lo := 0) (hi := m) (by omega); unfold wn; omega

theorem rwithin_any {n lo hi : Int} {w : World} : Gives Tryz.prog 145 #[.int .i64 n, .int .i64 lo, .int .i64 hi] w (.int .i64 (within n lo hi)) := by
  refine Gives.of ?_
  unfold within
  go_enter Tryz.func145, Tryz.ntmps145
  go_wp2
  all_goals go_ret
  all_goals exact ⟨by simp [*]; try omega, by simp⟩
theorem rwithin8 {n : Int} {w : World} : Gives Tryz.prog 145 #[.int .i64 n, .int .i64 0, .int .i64 8] w (.int .i64 (wn n 8 : Int)) := by
  rw [← wn_cast]; exact rwithin_any
theorem within_any {n lo hi : Int} {w : World} (h : lo ≤ hi) : Gives Tryz.prog 104 #[.int .i64 n, .int .i64 lo, .int .i64 hi] w (.int .i64 (within n lo hi)) := by
  refine Gives.of ?_
  unfold within
  go_enter Tryz.func104, Tryz.ntmps104
  go_wp2
  all_goals go_ret
  all_goals refine ⟨congrArg (fun b => Ending.returned (.int .i64 b)) ?_, by simp⟩
  all_goals (simp; repeat' split) <;> omega
theorem within8 {n : Int} {w : World} : Gives Tryz.prog 104 #[.int .i64 n, .int .i64 0, .int .i64 8] w (.int .i64 (wn n 8 : Int)) := by
  rw [← wn_cast]; exact within_any (by omega)
theorem within64 {n : Int} {w : World} : Gives Tryz.prog 104 #[.int .i64 n, .int .i64 0, .int .i64 64] w (.int .i64 (wn n 64 : Int)) := by
  rw [← wn_cast]; exact within_any (by omega)
theorem mask_any {n : Nat} {w : World} (h : n ≤ 64) : Gives Tryz.prog 105 #[.int .i64 n] w (.int .u64 ((2 ^ n - 1 : Nat) : Int)) := by
  refine Gives.of ?_
  go_enter Tryz.func105, Tryz.ntmps105
  go_wp2
  go_ret
  exact ⟨congrArg (fun b => Ending.returned (.int .u64 b)) (u64_pow h), by simp⟩
theorem num_any {s : ByteArray} {w : World} (h : s.size ≤ 8) : Gives Tryz.prog 102 #[.string s] w (.int .u64 (numL s.data.toList : Int)) := by
  refine Gives.of ?_
  go_enter Tryz.func102, Tryz.ntmps102
  go_wp2
  go_loop [3, 4, 7] (fun n j i => ∃ k : Nat, k ≤ s.size ∧ i = .int .i64 k ∧ n = .int .u64 (numL (s.data.toList.take k) : Int)) (fun _ _ i => s.size - (intOf i).toNat)
  case atStart => exact ⟨0, by omega, rfl, by simp [numL]⟩
  case round =>
    obtain ⟨k, hk, rfl, rfl⟩ := hrel
    by_cases hlt : k < s.size
    · have hl : numL (s.data.toList.take k) < 72057594037927936 := by
        have h1 := numL_lt (s.data.toList.take k)
        rw [List.length_take, size_toList] at h1
        have h2 : 256 ^ min k s.size ≤ 256 ^ 7 := pow256_le (by omega)
        omega
      have hs := Lib.hid (take_snocB s k hlt)
      go_wp2
      exact ⟨⟨k + 1, by omega, by go_num, by rw [hs.out, numL_snoc, u64_mul8or hl]⟩, by simp [intOf]; omega⟩
    · go_wp2
      go_ret
      exact ⟨congrArg (fun b => Ending.returned (.int .u64 b)) (by rw [List.take_of_length_le (by rw [size_toList]; omega)]), by simp⟩
theorem rnum_any {s : ByteArray} {w : World} (h : s.size ≤ 8) : Gives Tryz.prog 22 #[.string s] w (.int .u64 (numL s.data.toList : Int)) := by
  refine Gives.of ?_
  go_enter Tryz.func22, Tryz.ntmps22
  go_wp2
  go_loop [3, 4] (fun n i => ∃ k : Nat, k ≤ s.size ∧ i = .int .i64 k ∧ n = .int .u64 (numL (s.data.toList.take k) : Int)) (fun _ i => s.size - (intOf i).toNat)
  case atStart => exact ⟨0, by omega, rfl, by simp [numL]⟩
  case round =>
    obtain ⟨k, hk, rfl, rfl⟩ := hrel
    by_cases hlt : k < s.size
    · have hl : numL (s.data.toList.take k) < 72057594037927936 := by
        have h1 := numL_lt (s.data.toList.take k)
        rw [List.length_take, size_toList] at h1
        have h2 : 256 ^ min k s.size ≤ 256 ^ 7 := pow256_le (by omega)
        omega
      have hs := Lib.hid (take_snocB s k hlt)
      go_wp2
      refine ⟨⟨k + 1, by omega, by go_num, ?_⟩, by simp [intOf]; omega⟩
      rw [hs.out, numL_snoc, u64_mul8add hl]
    · go_wp2
      go_ret
      exact ⟨congrArg (fun b => Ending.returned (.int .u64 b)) (by rw [List.take_of_length_le (by rw [size_toList]; omega)]), by simp⟩
theorem bits_any {n : Nat} {a b : Int} {w : World} (hn : n < 18446744073709551616) : Gives Tryz.prog 50 #[.int .u64 n, .int .i64 a, .int .i64 b] w (.int .u64 (lowN n (wn a 64) (wn b 64) : Int)) := by
  refine Gives.of ?_
  have h1 := wn_le a 64
  have h2 := wn_le b 64
  go_enter Tryz.func50, Tryz.ntmps50
  go_wp2_with ((with_reducible (first | apply Gives.call_bw (Nat.le_refl _) | apply Gives.call)); (focus (first | (with_reducible exact within64) | (with_reducible exact mask_any (by assumption)))); intro x; (try dsimp only [drew_heap] at x))
  go_ret
  exact ⟨congrArg (fun b => Ending.returned (.int .u64 b)) (u64_andMask hn h2), by simp⟩
theorem rbit_any {n : Nat} {k : Int} {w : World} (hn : n < 18446744073709551616) : Gives Tryz.prog 146 #[.int .u64 n, .int .i64 k] w (.int .u64 (if k < 0 then 0 else (bitN n k.toNat : Int))) := by
  refine Gives.of ?_
  by_cases hk : k < 0
  · go_enter Tryz.func146, Tryz.ntmps146
    go_wp2
    go_ret
    exact ⟨by simp [hk], by simp⟩
  by_cases hk' : 63 < k
  · have hz : bitN n k.toNat = 0 := bitN_high hn (by omega)
    go_enter Tryz.func146, Tryz.ntmps146
    go_wp2
    go_ret
    exact ⟨by simp [hk, hz], by simp⟩
  · obtain ⟨m, rfl⟩ := Int.eq_ofNat_of_zero_le (show 0 ≤ k by omega)
    have hm : m ≤ 63 := by omega
    go_enter Tryz.func146, Tryz.ntmps146
    go_wp2
    go_loop [0, 1] (fun x i => ∃ j : Nat, j ≤ m ∧ i = .int .i64 j ∧ x = .int .u64 ((n / 2 ^ (m - j) : Nat) : Int)) (fun _ i => (intOf i).toNat)
    case atStart => exact ⟨m, by omega, rfl, by simp⟩
    case round =>
      obtain ⟨j, hj, rfl, rfl⟩ := hrel
      by_cases h0 : 0 < j
      · go_wp2
        refine ⟨⟨j - 1, by omega, by rw [show ((j - 1 : Nat) : Int) = (j : Int) - 1 by omega], ?_⟩, by simp [intOf]; omega⟩
        have h1 : n / 2 ^ (m - j) ≤ n := Nat.div_le_self _ _
        rw [cast_div_pow, u64_half (by omega), Nat.div_div_eq_div_mul, ← Nat.pow_succ, show (m - j).succ = m - (j - 1) by omega]
      · obtain rfl : j = 0 := by omega
        go_wp2
        go_ret
        refine ⟨?_, by simp⟩
        simp only [Nat.sub_zero, cast_div_pow, tmod2_nat]
        rfl
theorem rbit_int {n : Nat} {k : Int} {w : World} (hn : n < 18446744073709551616) (hk : 0 ≤ k) : Gives Tryz.prog 146 #[.int .u64 n, .int .i64 k] w (.int .u64 (bitN n k.toNat : Int)) := by
  have h := rbit_any (n := n) (k := k) (w := w) hn
  rw [if_neg (by omega)] at h
  exact h

theorem put_any {n : Nat} {wide : Int} {w : World} (hn : n < 18446744073709551616) : Gives Tryz.prog 186 #[.int .u64 n, .int .i64 wide] w (.string (str (putL n (wn wide 8)))) := by
  refine Gives.of ?_
  have h1 := wn_le wide 8
  have hmk := run_make1 elemU8 (z := .int .u8 0) (by kernel_rfl) rfl (wn wide 8) (wn wide 8) (Nat.le_refl _) (by omega) (by omega)
  go_enter Tryz.func186, Tryz.ntmps186
  go_wp2_with ((with_reducible (first | apply Gives.call_bw (Nat.le_refl _) | apply Gives.call)); (focus (first | (with_reducible exact within8))); intro x; (try dsimp only [drew_heap] at x))
  have hnew := fun (W : World) => Row.new W 5 (Array.replicate (wn wide 8) (.int .u8 0))
  go_loopw [0, 6] (fun v i wr => ∃ q j : Nat, q + j = wn wide 8 ∧ i = .int .i64 ((q : Int) - 1) ∧ v = .int .u64 (shr8 n j : Int) ∧ Row wr x.w.heap.size 5 (List.replicate q (Value.int .u8 0) ++ (putL n j).map byteV).toArray ∧ Below w.heap.size w wr) (fun _ i _ => (intOf i + 1).toNat)
  case atStart => exact ⟨wn wide 8, 0, by omega, rfl, by rw [shr8_zero], by simpa [putL] using hnew x.w, by exact blw⟩
  case round =>
    clear hnew
    obtain ⟨q, j, hq, rfl, rfl, hrow, hbel⟩ := hrel
    by_cases h0 : 0 < q
    · obtain ⟨p, rfl⟩ : ∃ p, q = p + 1 := ⟨q - 1, by omega⟩
      rw [show (((p + 1 : Nat) : Int) - 1) = (p : Int) by omega]
      have hcell : wr.cell? ⟨x.w.heap.size, p, none⟩ = some (.int .u8 0) := by
        rw [hrow.cell]
        simp [List.getElem?_append, List.getElem?_replicate]
      have hfr := hrow.frozen p
      have HR := Lib.hid hrow; clear hrow
      have hs := shr8_le n j
      go_wp2
      refine ⟨⟨p, j + 1, by omega, rfl, by rw [shr8_div], ?_, by have := x.below.size; exact blw⟩, by simp [intOf]⟩
      have h2 := HR.out.set p (.int .u8 ((shr8 n j : Int) % 256))
      rw [List.setIfInBounds_toArray, set_replicate, shr8_mod] at h2
      rw [shr8_mod]
      exact h2
    · obtain rfl : q = 0 := by omega
      have hm : j = wn wide 8 := by omega
      subst hm
      have hconv := run_str_of (P := Tryz.prog) (w := wr) (l := putL n (wn wide 8)) (len := wn wide 8) (cap := wn wide 8) (off := 0) (g := x.w.heap.size) Tryz.underlying114 Tryz.underlying5 Tryz.underlying9 (by rw [putL_length]) (by
        intro i b hb
        rw [hrow.cell]
        simp [hb])
      clear hrow
      go_wp2
      go_ret
      exact ⟨rfl, hbel⟩
theorem Put_any {n : Nat} {wide : Int} {w : World} (hn : n < 18446744073709551616) : Gives Tryz.prog 140 #[.int .u64 n, .int .i64 wide] w (.string (str (putL n (wn wide 8)))) := by
  refine Gives.of ?_
  go_enter Tryz.func140, Tryz.ntmps140
  go_wp2_with ((with_reducible (first | apply Gives.call_bw (Nat.le_refl _) | apply Gives.call)); (focus (first | (with_reducible exact put_any (by assumption)))); intro x; (try dsimp only [drew_heap] at x))
  go_ret
  exact ⟨rfl, by exact blw⟩
theorem cut_any {s : ByteArray} {m : Nat} {w : World} : Gives Tryz.prog 5 #[.string s, .int .i64 m] w (.string (s.extract 0 m)) := by
  refine Gives.of ?_
  go_enter Tryz.func5, Tryz.ntmps5
  go_wp2
  · go_ret
    exact ⟨rfl, by simp⟩
  · go_ret
    refine ⟨congrArg (fun b => Ending.returned (.string b)) ?_, by simp⟩
    apply data_inj
    have : s.data.toList.length ≤ m := by rw [size_toList]; omega
    rw [toList_extract, List.drop_zero, Nat.sub_zero, List.take_of_length_le this]
/-- eight bits of a number, from a place on, the highest first: so many of them -/
theorem rput_any {n : Nat} {wide : Int} {w : World} (hn : n < 18446744073709551616) : Gives Tryz.prog 100 #[.int .u64 n, .int .i64 wide] w (.string (str (putL n (wn wide 8)))) := by
  refine Gives.of ?_
  have h1 := wn_le wide 8
  go_enter Tryz.func100, Tryz.ntmps100
  go_wp2_with ((with_reducible (first | apply Gives.call_bw (Nat.le_refl _) | apply Gives.call)); (focus (first | (with_reducible exact rwithin8))); intro x; (try dsimp only [drew_heap] at x))
  go_loopw [5, 6, 7, 8] (fun v i _ _ wr => ∃ (q : Nat) (L : List UInt8), q ≤ wn wide 8 ∧ L ++ putL n q = putL n (wn wide 8) ∧ i = .int .i64 ((q : Int) - 1) ∧ wr.ownsRow w.heap.size 5 1 v L.length (L.map byteV) ∧ Below w.heap.size w wr) (fun _ i _ _ _ => (intOf i + 1).toNat)
  case atStart => exact ⟨wn wide 8, [], Nat.le_refl _, rfl, rfl, ⟨rfl, .inr ⟨w.heap.size, 0, #[], rfl, Nat.le_refl _, (Row.new w 5 #[]).bw (by simp), Nat.le_refl _, by simp, rfl, rfl⟩⟩, by exact blw⟩
  case round =>
    obtain ⟨q, L, hq, hL, rfl, hown, hbel⟩ := hrel
    by_cases h0 : 0 < q
    · obtain ⟨p, rfl⟩ : ∃ p, q = p + 1 := ⟨q - 1, by omega⟩
      rw [show (((p + 1 : Nat) : Int) - 1) = (p : Int) by omega]
      have hsz := hbel.size
      have HO := Lib.hid hown; clear hown
      have HL := Lib.hid hL; clear hL
      obtain ⟨wo, rfl⟩ : ∃ wo : World, wo = wr := ⟨_, rfl⟩
      go_wp2_with fail
      go_loopw [7, 8] (fun x k wi => ∃ t : Nat, t ≤ 8 ∧ k = .int .i64 (7 - (t : Int)) ∧ x = .int .u64 (lowN n (8 * p + (8 - t)) t : Int) ∧ ∃ y : BW wo.heap.size wo, wi = y.w) (fun _ k _ => (intOf k + 1).toNat)
      case atStart => exact ⟨0, by omega, rfl, by rw [lowN_zero]; rfl, BW.mk (Below.refl _ _), rfl⟩
      case round =>
        obtain ⟨t, ht, rfl, rfl, y, rfl⟩ := hrel
        by_cases hlt : t < 8
        · have hlow := lowN_lt n (8 * p + (8 - t)) t
          have hlow2 : lowN n (8 * p + (8 - t)) t < 256 := Nat.lt_of_lt_of_le hlow (Nat.pow_le_pow_right (by omega) (show t ≤ 8 by omega))
          have hbit := bitN_lt n (8 * p + (7 - t))
          clear hlow
          go_wp2_with ((with_reducible (first | apply Gives.call_bw (Nat.le_refl _) | apply Gives.call)); (focus (first | (with_reducible exact rbit_int (by assumption) (by omega)))); intro x; (try dsimp only [drew_heap] at x))
          refine ⟨⟨t + 1, by omega, by rw [show (7 - ((t + 1 : Nat) : Int)) = 7 - (t : Int) - 1 by omega], ?_, _, rfl⟩, by simp [intOf]; omega⟩
          have hup := lowN_up n (8 * p + (8 - (t + 1))) t
          rw [show 8 * p + (8 - (t + 1)) + 1 = 8 * p + (8 - t) by omega, show 8 * p + (8 - (t + 1)) = 8 * p + (7 - t) by omega] at hup
          rw [show 8 * p + (8 - (t + 1)) = 8 * p + (7 - t) by omega, hup]
          first | rfl | (congr 1; omega)
        · obtain rfl : t = 8 := by omega
          have hlow2 : lowN n (8 * p + (8 - 8)) 8 < 256 := lowN_lt _ _ 8
          have hown := own_below HO.out y.below
          have hlen : L.length ≤ 8 := by have := congrArg List.length HL.out; simp only [List.length_append, putL_length] at this; omega
          go_wp2_with (at_builtin; refine wpList_app1 elemU8 rfl _ _ rfl rfl rfl hown rfl (by omega) (by simp only [maxLen]; omega) (by have := y.below.size; omega) ?_; intro v' w' hown' hbel')
          refine ⟨⟨p, L ++ [byteAt n p], by omega, ?_, rfl, ?_, hbel.trans (y.below.mono hsz |>.trans hbel')⟩, by simp [intOf]⟩
          · rw [List.append_assoc]
            exact HL.out
          · rw [lowN_byte_mod] at hown'
            simpa [byteV] using hown'
    · obtain rfl : q = 0 := by omega
      have hL : L = putL n (wn wide 8) := by simpa [putL] using hL
      have hconv := run_str_own (P := Tryz.prog) (w := wr) (dst := 9) Tryz.underlying114 Tryz.underlying5 Tryz.underlying9 hown
      clear hown
      go_wp2
      go_ret
      exact ⟨by rw [← hL]; rfl, hbel⟩
def rdCells (s : ByteArray) (k : Nat) (bad : Bool) : Array Value := #[.string s, .int .i64 (k : Int), .bool bad]
def Rd (w : World) (g : Nat) (s : ByteArray) (k : Nat) (bad : Bool) : Prop := Row w g 129 (rdCells s k bad)
theorem Rd.c0 {w : World} {g : Nat} {s : ByteArray} {k : Nat} {bad : Bool} (h : Rd w g s k bad) : w.cell? ⟨g, 0, none⟩ = some (.string s) := h.cell 0
theorem Rd.c1 {w : World} {g : Nat} {s : ByteArray} {k : Nat} {bad : Bool} (h : Rd w g s k bad) : w.cell? ⟨g, 1, none⟩ = some (.int .i64 (k : Int)) := h.cell 1
theorem Rd.c2 {w : World} {g : Nat} {s : ByteArray} {k : Nat} {bad : Bool} (h : Rd w g s k bad) : w.cell? ⟨g, 2, none⟩ = some (.bool bad) := h.cell 2

theorem new_any {s : ByteArray} {w : World} : Calls Tryz.prog 47 #[.string s] w fun e w' => e = .returned (.pointer (some ⟨w.heap.size, 0, none⟩)) ∧ w' = w.alloc (.cells (rdCells s 0 false) 129) := by
  go_enter Tryz.func47, Tryz.ntmps47
  go_wp2
  go_ret
  exact ⟨rfl, rfl⟩
theorem take_bad {g : Nat} {s : ByteArray} {k : Nat} {n : Int} {w : World} (hr : Rd w g s k true) : Gives Tryz.prog 103 #[.pointer (some ⟨g, 0, none⟩), .int .i64 n] w (.string ⟨#[]⟩) := by
  refine Gives.of ?_
  have c2 := hr.c2
  go_enter Tryz.func103, Tryz.ntmps103
  go_wp2
  go_ret
  exact ⟨rfl, by exact blw⟩
theorem Rd.set {w : World} {g : Nat} {s : ByteArray} {k : Nat} {bad : Bool} (h : Rd w g s k bad) (k' : Nat) : Rd (w.setCell ⟨g, 1, none⟩ (.int .i64 (k' : Int))) g s k' bad := Row.set h 1 _
theorem Rd.setBad {w : World} {g : Nat} {s : ByteArray} {k : Nat} {bad : Bool} (h : Rd w g s k bad) : Rd (w.setCell ⟨g, 2, none⟩ (.bool true)) g s k true := Row.set h 2 _
theorem Rd.drewN {w : World} {g : Nat} {s : ByteArray} {k : Nat} {bad : Bool} (h : Rd w g s k bad) (n : Nat) : Rd (w.drewN n) g s k bad := h
theorem take_ok {g : Nat} {s : ByteArray} {k : Nat} {n : Int} {w : World} (hr : Rd w g s k false) (hs : s.size ≤ 9223372036854775807) (hn : k + n.toNat ≤ s.size) (hn2 : n ≤ 9223372036854775807) :
    Calls Tryz.prog 103 #[.pointer (some ⟨g, 0, none⟩), .int .i64 n] w fun e w' => e = .returned (.string (s.extract k (k + n.toNat))) ∧ Rd w' g s (k + n.toNat) false ∧ w.grownBy w' (some g) := by
  have c0 := hr.c0
  have c1 := hr.c1
  have c2 := hr.c2
  have hf := hr.frozen 1
  have HR := Lib.hid hr
  clear hr
  by_cases h0 : n < 0
  · have e0 : n.toNat = 0 := by omega
    rw [e0, Nat.add_zero]
    have hk : k ≤ s.size := by omega
    clear hn e0
    go_enter Tryz.func103, Tryz.ntmps103
    go_wp2
    go_quiet (fail)
    go_wp2
    go_quiet (fail)
    go_wp2
    go_ret
    exact ⟨by rw [show s.extract k k = ByteArray.empty from data_inj (by rw [toList_extract]; simp)]; rfl, ((HR.out.drewN _).set k).drewN _, gb_drewN (gb_set (gb_drewN (World.grownBy.refl w _) _) _ _) _⟩
  · obtain ⟨n, rfl⟩ := Int.eq_ofNat_of_zero_le (show 0 ≤ n by omega)
    rw [Int.toNat_natCast] at *
    clear h0
    go_enter Tryz.func103, Tryz.ntmps103
    go_wp2
    go_quiet (fail)
    go_wp2
    go_quiet (fail)
    go_wp2
    go_ret
    refine ⟨rfl, ?_, gb_drewN (gb_set (gb_drewN (World.grownBy.refl w _) _) _ _) _⟩
    rw [show ((k : Int) + (n : Int)) = ((k + n : Nat) : Int) by omega]
    exact ((HR.out.drewN _).set (k + n)).drewN _
theorem take_short {g : Nat} {s : ByteArray} {k : Nat} {n : Int} {w : World} (hr : Rd w g s k false) (hs : s.size ≤ 9223372036854775807) (hk : k ≤ s.size) (hn : s.size < k + n.toNat) (hn2 : n ≤ 9223372036854775807) :
    Calls Tryz.prog 103 #[.pointer (some ⟨g, 0, none⟩), .int .i64 n] w fun e w' => e = .returned (.string ⟨#[]⟩) ∧ Rd w' g s k true ∧ w.grownBy w' (some g) := by
  have c0 := hr.c0
  have c1 := hr.c1
  have c2 := hr.c2
  have hf := hr.frozen 2
  have HR := Lib.hid hr
  clear hr
  obtain ⟨n, rfl⟩ := Int.eq_ofNat_of_zero_le (show 0 ≤ n by omega)
  rw [Int.toNat_natCast] at *
  go_enter Tryz.func103, Tryz.ntmps103
  go_wp2
  go_quiet (fail)
  go_wp2
  go_ret
  exact ⟨rfl, (HR.out.drewN _).setBad, gb_set (gb_drewN (World.grownBy.refl w _) _) _ _⟩

/-- what a reader hands back, how far it is then, and whether too many were asked for -/
def rdFits (s : ByteArray) (k : Nat) (bad : Bool) (n : Nat) : Bool := !bad && decide (k + n ≤ s.size)
def rdS (s : ByteArray) (k : Nat) (bad : Bool) (n : Nat) : ByteArray := if rdFits s k bad n then s.extract k (k + n) else ⟨#[]⟩
def rdK (s : ByteArray) (k : Nat) (bad : Bool) (n : Nat) : Nat := if rdFits s k bad n then k + n else k
def rdB (s : ByteArray) (k : Nat) (bad : Bool) (n : Nat) : Bool := !rdFits s k bad n
theorem rdK_le {s : ByteArray} {k : Nat} (bad : Bool) (n : Nat) (h : k ≤ s.size) : rdK s k bad n ≤ s.size := by
  unfold rdK rdFits
  split
  · rename_i h1
    simp at h1
    omega
  · exact h
theorem rdS_size {s : ByteArray} {k : Nat} (bad : Bool) (n : Nat) : (rdS s k bad n).size ≤ n := by
  unfold rdS
  split
  · rw [← size_toList, toList_extract, List.length_take]; omega
  · simp [ByteArray.size]
theorem take_any {g : Nat} {s : ByteArray} {k : Nat} {bad : Bool} {n : Int} {w : World} (hr : Rd w g s k bad) (hs : s.size ≤ 9223372036854775807) (hk : k ≤ s.size) (hn2 : n ≤ 9223372036854775807) :
    Calls Tryz.prog 103 #[.pointer (some ⟨g, 0, none⟩), .int .i64 n] w fun e w' => e = .returned (.string (rdS s k bad n.toNat)) ∧ Rd w' g s (rdK s k bad n.toNat) (rdB s k bad n.toNat) ∧ w.grownBy w' (some g) := by
  cases bad with
  | true =>
    have e : rdFits s k true n.toNat = false := rfl
    simp only [rdS, rdK, rdB, e, Bool.false_eq_true, if_false, if_true, Bool.not_false, Bool.not_true]
    exact (take_bad hr).to.mono fun e w' ⟨he, hb⟩ => ⟨he, Row.below hr hb hr.lt, gb_below hb⟩
  | false =>
    by_cases h : k + n.toNat ≤ s.size
    · have e : rdFits s k false n.toNat = true := by simp [rdFits, h]
      simp only [rdS, rdK, rdB, e, Bool.false_eq_true, if_false, if_true, Bool.not_false, Bool.not_true]
      exact take_ok hr hs h hn2
    · have e : rdFits s k false n.toNat = false := by simp [rdFits, h]
      simp only [rdS, rdK, rdB, e, Bool.false_eq_true, if_false, if_true, Bool.not_false, Bool.not_true]
      exact take_short hr hs hk (by omega) hn2
theorem Take_any {g : Nat} {s : ByteArray} {k : Nat} {bad : Bool} {n : Int} {w : World} (hr : Rd w g s k bad) (hs : s.size ≤ 9223372036854775807) (hk : k ≤ s.size) (hn2 : n ≤ 9223372036854775807) :
    Calls Tryz.prog 101 #[.pointer (some ⟨g, 0, none⟩), .int .i64 n] w fun e w' => e = .returned (.string (rdS s k bad n.toNat)) ∧ Rd w' g s (rdK s k bad n.toNat) (rdB s k bad n.toNat) ∧ w.grownBy w' (some g) := by
  have HR := Lib.hid hr
  clear hr
  go_enter Tryz.func101, Tryz.ntmps101
  go_wp2_with fail
  refine (take_any HR.out hs hk hn2).mono ?_
  rintro e w1 ⟨rfl, hr1, hg1⟩
  have H1 := Lib.hid hr1
  clear hr1
  go_wp2
  go_ret
  exact ⟨rfl, H1.out, hg1⟩
theorem Num_any {g : Nat} {s : ByteArray} {k : Nat} {bad : Bool} {n : Int} {w : World} (hr : Rd w g s k bad) (hs : s.size ≤ 9223372036854775807) (hk : k ≤ s.size) :
    Calls Tryz.prog 49 #[.pointer (some ⟨g, 0, none⟩), .int .i64 n] w fun e w' => e = .returned (.int .u64 (numL (rdS s k bad (wn n 8)).data.toList : Int)) ∧ Rd w' g s (rdK s k bad (wn n 8)) (rdB s k bad (wn n 8)) ∧ w.grownBy w' (some g) := by
  have HR := Lib.hid hr
  have hl := hr.lt
  have h8 := wn_le n 8
  clear hr
  go_enter Tryz.func49, Tryz.ntmps49
  go_wp2_with ((with_reducible (first | apply Gives.call_bw (Nat.le_refl _) | apply Gives.call)); (focus (first | (with_reducible exact within8))); intro x; (try dsimp only [drew_heap] at x))
  refine (take_any (Row.bw HR.out hl) hs hk (by omega)).mono ?_
  rintro e w1 ⟨rfl, hr1, hg1⟩
  rw [Int.toNat_natCast] at *
  have H1 := Lib.hid hr1
  have hl1 := hr1.lt
  have hsz := rdS_size (s := s) (k := k) bad (wn n 8)
  clear hr1
  go_wp2_with ((with_reducible (first | apply Gives.call_bw (Nat.le_refl _) | apply Gives.call)); (focus (first | (with_reducible exact num_any (by omega)))); intro x; (try dsimp only [drew_heap] at x))
  go_ret
  exact ⟨rfl, Row.bw H1.out hl1, gb_trans (gb_below (below_bw _ (Below.refl _ _) (Nat.le_refl _))) (gb_trans hg1 (gb_below (below_bw _ (Below.refl _ _) (Nat.le_refl _))))⟩
theorem Rest_any {g : Nat} {s : ByteArray} {k : Nat} {bad : Bool} {w : World} (hr : Rd w g s k bad) (hs : s.size ≤ 9223372036854775807) (hk : k ≤ s.size) : Gives Tryz.prog 51 #[.pointer (some ⟨g, 0, none⟩)] w (.string (s.extract k s.size)) := by
  refine Gives.of ?_
  have c0 := hr.c0
  have c1 := hr.c1
  clear hr
  go_enter Tryz.func51, Tryz.ntmps51
  go_wp2
  go_quiet (fail)
  go_wp2
  go_ret
  exact ⟨rfl, by exact blw⟩
theorem Left_any {g : Nat} {s : ByteArray} {k : Nat} {bad : Bool} {w : World} (hr : Rd w g s k bad) (hs : s.size ≤ 9223372036854775807) (hk : k ≤ s.size) : Gives Tryz.prog 187 #[.pointer (some ⟨g, 0, none⟩)] w (.int .i64 ((s.size - k : Nat) : Int)) := by
  refine Gives.of ?_
  have c0 := hr.c0
  have c1 := hr.c1
  clear hr
  go_enter Tryz.func187, Tryz.ntmps187
  go_wp2
  go_quiet (fail)
  go_wp2
  go_ret
  exact ⟨congrArg (fun b => Ending.returned (.int .i64 b)) (by show ((s.size : Int) - (k : Int)) = _; omega), by exact blw⟩
theorem Bad_any {g : Nat} {s : ByteArray} {k : Nat} {bad : Bool} {w : World} (hr : Rd w g s k bad) : Gives Tryz.prog 52 #[.pointer (some ⟨g, 0, none⟩)] w (.bool bad) := by
  refine Gives.of ?_
  have c2 := hr.c2
  clear hr
  go_enter Tryz.func52, Tryz.ntmps52
  go_wp2
  go_ret
  exact ⟨rfl, by exact blw⟩
def foldN (n : Nat) : Nat := if n = 0 then 0 else (n - 1) % 65535 + 1
theorem foldN_small {n : Nat} (h : n ≤ 65535) : foldN n = n := by unfold foldN; split <;> omega
theorem foldN_le (n : Nat) : foldN n ≤ 65535 := by unfold foldN; split <;> omega
theorem foldN_step {n : Nat} (h : 65535 < n) : foldN (n % 65536 + n / 65536) = foldN n := by
  unfold foldN
  rw [if_neg (by omega), if_neg (by omega)]
  omega
theorem foldN_add (a b : Nat) : foldN (foldN a + b) = foldN (a + b) := by
  unfold foldN
  by_cases ha : a = 0
  · subst ha; simp
  · rw [if_neg ha, if_neg (by omega), if_neg (by omega)]
    omega
def wsum : List UInt8 → Nat
  | [] => 0
  | [a] => a.toNat * 256
  | a :: b :: r => a.toNat * 256 + b.toNat + wsum r
theorem wsum_snoc : ∀ (l : List UInt8) (b : UInt8), wsum (l ++ [b]) = wsum l + (if l.length % 2 = 0 then b.toNat * 256 else b.toNat)
  | [], b => by simp [wsum]
  | [a], b => by simp [wsum]
  | a :: c :: r, b => by
    have h := wsum_snoc r b
    rw [List.cons_append, List.cons_append, wsum, wsum, h]
    have e : (a :: c :: r).length % 2 = r.length % 2 := by simp; omega
    rw [e]
    omega
theorem wsum_append {a : List UInt8} (ha : a.length % 2 = 0) (b : List UInt8) : wsum (a ++ b) = wsum a + wsum b := by
  match a with
  | [] => simp [wsum]
  | [x] => simp at ha
  | x :: y :: r =>
    rw [List.cons_append, List.cons_append, wsum, wsum, wsum_append (by simp at ha; omega) b]
    omega
theorem wsum_le : ∀ l : List UInt8, wsum l ≤ 65535 * l.length
  | [] => by simp [wsum]
  | [a] => by have := a.toNat_lt; simp [wsum]; omega
  | a :: b :: r => by
    have h := wsum_le r
    have h1 := a.toNat_lt
    have h2 := b.toNat_lt
    rw [wsum]
    simp only [List.length_cons]
    omega
theorem wsum_two (l : List UInt8) (h : l.length = 2) : wsum l = numL l := by
  match l, h with
  | [a, b], _ => simp [wsum, numL]
theorem wsum_zero_pad (l : List UInt8) : wsum (l ++ [0]) = wsum l := by rw [wsum_snoc]; simp
def flat (ss : List ByteArray) : List UInt8 := ss.flatMap (fun s => s.data.toList)
theorem flat_snoc (ss : List ByteArray) (s : ByteArray) : flat (ss ++ [s]) = flat ss ++ s.data.toList := by simp [flat]

theorem fold_any {n : Nat} {w : World} (hn : n < 18446744073709551616) : Gives Tryz.prog 203 #[.int .u64 n] w (.int .u64 (foldN n : Int)) := by
  refine Gives.of ?_
  go_enter Tryz.func203, Tryz.ntmps203
  go_wp2
  go_loop [0] (fun x => ∃ m : Nat, m < 18446744073709551616 ∧ foldN m = foldN n ∧ x = .int .u64 (m : Int)) (fun x => (intOf x).toNat)
  case atStart => exact ⟨n, hn, rfl, rfl⟩
  case round =>
    obtain ⟨m, hm, he, rfl⟩ := hrel
    have HE := Lib.hid he
    clear he
    by_cases h : 65535 < m
    · have hand : bits .and .u64 (m : Int) 65535 = ((m % 65536 : Nat) : Int) := by rw [show (65535 : Int) = ((65535 : Nat) : Int) from rfl, u64_and_nat _ _ hm (by omega), nat_mask16]
      go_wp2
      refine ⟨⟨m % 65536 + m / 65536, by omega, by rw [foldN_step h, HE.out], ?_⟩, by simp [intOf]; omega⟩
      congr 1
    · go_wp2
      go_ret
      exact ⟨by rw [← HE.out, foldN_small (by omega)]; rfl, by simp⟩
theorem total_any {g off c : Nat} {ss : List ByteArray} {w : World} (hc : ∀ i s, ss[i]? = some s → w.cell? ⟨g, off + i, none⟩ = some (.string s)) (hz : ∀ s ∈ ss, s.size ≤ 9223372036854775807) (hb : ss.length ≤ 1000000) (hg : g < w.heap.size) :
    Gives Tryz.prog 174 #[.slice (some ⟨g, off, none⟩) ss.length c] w (.int .u64 (foldN (wsum (flat ss)) : Int)) := by
  refine Gives.of ?_
  have HC := Lib.hid hc
  have HZ := Lib.hid hz
  clear hc hz
  go_enter Tryz.func174, Tryz.ntmps174
  go_wp2
  go_loopw [3, 4, 6, 7, 8, 11] (fun n odd _ _ _ i wr => ∃ k : Nat, k ≤ ss.length ∧ i = .int .i64 k ∧ n = .int .u64 (foldN (wsum (flat (ss.take k))) : Int) ∧ odd = .bool (decide ((flat (ss.take k)).length % 2 = 1)) ∧ ∃ y : BW w.heap.size w, wr = y.w) (fun _ _ _ _ _ i _ => ss.length - (intOf i).toNat)
  case atStart => exact ⟨0, by omega, rfl, rfl, rfl, BW.mk (Below.refl _ _), rfl⟩
  case round =>
    obtain ⟨k, hk, rfl, rfl, rfl, y, rfl⟩ := hrel
    by_cases hlt : k < ss.length
    · have hcell := HC.out k _ (List.getElem?_eq_getElem hlt)
      have hts : ss.take (k + 1) = ss.take k ++ [ss[k]] := by rw [List.take_add_one, List.getElem?_eq_getElem hlt]; rfl
      have HT := Lib.hid hts
      have hsz := HZ.out _ (List.getElem_mem hlt)
      clear hts
      generalize ss[k] = s at *
      generalize hL : flat (ss.take k) = L at *
      have HL := Lib.hid hL
      clear hL
      go_wp2_with fail
      go_loopw [3, 4, 7, 8, 17] (fun n odd _ _ j wi => ∃ m : Nat, m ≤ s.size ∧ j = .int .i64 m ∧ n = .int .u64 (foldN (wsum (L ++ s.data.toList.take m)) : Int) ∧ odd = .bool (decide ((L ++ s.data.toList.take m).length % 2 = 1)) ∧ ∃ z : BW w.heap.size w, wi = z.w) (fun _ _ _ _ j _ => s.size - (intOf j).toNat)
      case atStart => exact ⟨0, by omega, rfl, by simp, by simp, y, rfl⟩
      case round =>
        obtain ⟨m, hm, rfl, rfl, rfl, z, rfl⟩ := hrel
        by_cases hlt2 : m < s.size
        · have hs2 := Lib.hid (take_snocB s m hlt2)
          have hb := s[m].toNat_lt
          have hws := Lib.hid (wsum_snoc (L ++ s.data.toList.take m) s[m])
          have hfl := foldN_le (wsum (L ++ s.data.toList.take m))
          have hlen := Lib.hid (show ((L ++ s.data.toList.take m) ++ [s[m]]).length = (L ++ s.data.toList.take m).length + 1 by rw [List.length_append]; rfl)
          have happ := Lib.hid (show L ++ s.data.toList.take (m + 1) = (L ++ s.data.toList.take m) ++ [s[m]] by rw [hs2.out, List.append_assoc])
          generalize hX : L ++ s.data.toList.take m = X at *
          clear hX
          have hf1 : ∀ w, Gives Tryz.prog 203 #[.int .u64 ((foldN (wsum X) : Int) + (s[m].toNat : Int) * 256)] w (.int .u64 (foldN (wsum X + s[m].toNat * 256) : Int)) := fun w => by
            have h := fold_any (n := foldN (wsum X) + s[m].toNat * 256) (w := w) (by omega)
            rw [foldN_add, show ((foldN (wsum X) + s[m].toNat * 256 : Nat) : Int) = (foldN (wsum X) : Int) + (s[m].toNat : Int) * 256 by omega] at h
            exact h
          have hf2 : ∀ w, Gives Tryz.prog 203 #[.int .u64 ((foldN (wsum X) : Int) + (s[m].toNat : Int))] w (.int .u64 (foldN (wsum X + s[m].toNat) : Int)) := fun w => by
            have h := fold_any (n := foldN (wsum X) + s[m].toNat) (w := w) (by omega)
            rw [foldN_add, show ((foldN (wsum X) + s[m].toNat : Nat) : Int) = (foldN (wsum X) : Int) + (s[m].toNat : Int) by omega] at h
            exact h
          cases hp : decide (X.length % 2 = 1)
          · have hp0 : X.length % 2 = 0 := by have := of_decide_eq_false hp; omega
            have HP0 := Lib.hid hp0
            clear hp hp0
            go_wp2_with ((with_reducible (first | apply Gives.call_bw (Nat.le_refl _) | apply Gives.call)); (focus (first | (with_reducible exact hf1 _))); intro x; (try dsimp only [drew_heap] at x))
            refine ⟨⟨m + 1, by omega, by go_num, ?_, ?_, _, rfl⟩, by simp [intOf]; omega⟩
            · rw [happ.out, hws.out, HP0.out]; rfl
            · rw [happ.out, hlen.out]; have := HP0.out; simp; omega
          · have hp0 : X.length % 2 = 1 := of_decide_eq_true hp
            have HP0 := Lib.hid hp0
            clear hp hp0
            go_wp2_with ((with_reducible (first | apply Gives.call_bw (Nat.le_refl _) | apply Gives.call)); (focus (first | (with_reducible exact hf2 _))); intro x; (try dsimp only [drew_heap] at x))
            refine ⟨⟨m + 1, by omega, by go_num, ?_, ?_, _, rfl⟩, by simp [intOf]; omega⟩
            · rw [happ.out, hws.out, HP0.out]; rfl
            · rw [happ.out, hlen.out]; have := HP0.out; simp; omega
        · go_wp2
          refine ⟨⟨k + 1, by omega, by go_num, ?_, ?_, _, rfl⟩, by simp [intOf]; omega⟩
          · rw [HT.out, flat_snoc, HL.out, List.take_of_length_le (by rw [size_toList]; omega)]
          · rw [HT.out, flat_snoc, HL.out, List.take_of_length_le (by rw [size_toList]; omega)]
    · go_wp2
      go_ret
      exact ⟨by rw [List.take_of_length_le (by omega)]; rfl, by exact blw⟩
theorem Check_any {g off c : Nat} {ss : List ByteArray} {w : World} (hc : ∀ i s, ss[i]? = some s → w.cell? ⟨g, off + i, none⟩ = some (.string s)) (hz : ∀ s ∈ ss, s.size ≤ 9223372036854775807) (hb : ss.length ≤ 1000000) (hg : g < w.heap.size) :
    Gives Tryz.prog 128 #[.slice (some ⟨g, off, none⟩) ss.length c] w (.int .i64 ((65535 - foldN (wsum (flat ss)) : Nat) : Int)) := by
  refine Gives.of ?_
  have h := @total_any g off c ss w hc hz hb hg
  have hl := foldN_le (wsum (flat ss))
  clear hc hz
  go_enter Tryz.func128, Tryz.ntmps128
  go_wp2_with ((with_reducible (first | apply Gives.call_bw (Nat.le_refl _) | apply Gives.call)); (focus (first | (with_reducible exact h))); intro x; (try dsimp only [drew_heap] at x))
  go_ret
  exact ⟨congrArg (fun b => Ending.returned (.int .i64 b)) (by show (65535 - (foldN (wsum (flat ss)) : Int)) = _; omega), by exact blw⟩
theorem Good_any {g off c : Nat} {ss : List ByteArray} {w : World} (hc : ∀ i s, ss[i]? = some s → w.cell? ⟨g, off + i, none⟩ = some (.string s)) (hz : ∀ s ∈ ss, s.size ≤ 9223372036854775807) (hb : ss.length ≤ 1000000) (hg : g < w.heap.size) :
    Gives Tryz.prog 151 #[.slice (some ⟨g, off, none⟩) ss.length c] w (.bool (decide (foldN (wsum (flat ss)) = 65535))) := by
  refine Gives.of ?_
  have h := @total_any g off c ss w hc hz hb hg
  have hl := foldN_le (wsum (flat ss))
  clear hc hz
  go_enter Tryz.func151, Tryz.ntmps151
  go_wp2_with ((with_reducible (first | apply Gives.call_bw (Nat.le_refl _) | apply Gives.call)); (focus (first | (with_reducible exact h))); intro x; (try dsimp only [drew_heap] at x))
  go_ret
  refine ⟨congrArg (fun b => Ending.returned (.bool b)) ?_, by exact blw⟩
  rw [Bool.eq_iff_iff]; simp; omega
theorem rFold_any {n : Nat} {w : World} (hn : n < 18446744073709551616) : Gives Tryz.prog 112 #[.int .u64 n] w (.int .i64 (foldN n : Int)) := by
  refine Gives.of ?_
  by_cases h : n = 0
  · subst h
    go_enter Tryz.func112, Tryz.ntmps112
    go_wp2
    go_ret
    exact ⟨rfl, by exact blw⟩
  · have hb : ((n : Int) == 0) = false := by simp; omega
    have HE := Lib.hid (show foldN n = (n - 1) % 65535 + 1 by unfold foldN; rw [if_neg h])
    have hp : 0 < n := by omega
    clear h
    go_enter Tryz.func112, Tryz.ntmps112
    go_wp2
    go_ret
    refine ⟨congrArg (fun b => Ending.returned (.int .i64 b)) ?_, by exact blw⟩
    rw [HE.out]
    show ((n : Int) - 1) % 65535 + 1 = _
    omega
theorem strs_row {w : World} {g : Nat} {t : TypeId} {ss : List ByteArray} (h : Row w g t (ss.map Value.string).toArray) : ∀ i s, ss[i]? = some s → w.cell? ⟨g, 0 + i, none⟩ = some (.string s) := by
  intro i s hs
  rw [Nat.zero_add, h.cell]
  simp [hs]
def SmallSs (ss : List ByteArray) : Prop := (∀ s ∈ ss, s.size ≤ 9223372036854775807) ∧ ss.length ≤ 1000000
theorem small1 {a : ByteArray} (ha : a.size ≤ 9223372036854775807) : SmallSs [a] := ⟨by simpa using ha, by simp⟩
theorem small2 {a b : ByteArray} (ha : a.size ≤ 9223372036854775807) (hb : b.size ≤ 9223372036854775807) : SmallSs [a, b] := ⟨by simp [ha, hb], by simp⟩
theorem small3 {a b c : ByteArray} (ha : a.size ≤ 9223372036854775807) (hb : b.size ≤ 9223372036854775807) (hc : c.size ≤ 9223372036854775807) : SmallSs [a, b, c] := ⟨by simp [ha, hb, hc], by simp⟩
theorem Check_row {g c m : Nat} {ss : List ByteArray} {w : World} (hm : ss.length = m) (hs : SmallSs ss) (h : Row w g 9 (ss.map Value.string).toArray) :
    Gives Tryz.prog 128 #[.slice (some ⟨g, 0, none⟩) m c] w (.int .i64 ((65535 - foldN (wsum (flat ss)) : Nat) : Int)) := by
  subst hm; exact Check_any (strs_row h) hs.1 hs.2 h.lt
theorem Good_row {g c m : Nat} {ss : List ByteArray} {w : World} (hm : ss.length = m) (hs : SmallSs ss) (h : Row w g 9 (ss.map Value.string).toArray) :
    Gives Tryz.prog 151 #[.slice (some ⟨g, 0, none⟩) m c] w (.bool (decide (foldN (wsum (flat ss)) = 65535))) := by
  subst hm; exact Good_any (strs_row h) hs.1 hs.2 h.lt
theorem wsum_take2 {l : List UInt8} {k : Nat} (h : 2 * k + 2 ≤ l.length) : wsum (l.take (2 * (k + 1))) = wsum (l.take (2 * k)) + numL ((l.drop (2 * k)).take 2) := by
  rw [show 2 * (k + 1) = 2 * k + 2 by omega, List.take_add, wsum_append (by rw [List.length_take]; omega)]
  rw [wsum_two ((l.drop (2 * k)).take 2) (by rw [List.length_take, List.length_drop]; omega)]
theorem wsum_take_le (l : List UInt8) (k : Nat) : wsum (l.take k) ≤ 65535 * l.length := Nat.le_trans (wsum_le _) (by rw [List.length_take]; omega)
/-- of a text of words -/
theorem rSum_walk {s s' : ByteArray} {N : Nat} {w : World} (hN : s'.size = 2 * N) (hs : s'.size ≤ 1000000000001) (h : (s.size % 2 = 1 ∧ s' = s ++ ⟨#[0]⟩) ∨ (s.size % 2 = 0 ∧ s' = s)) : Gives Tryz.prog 58 #[.string s] w (.int .i64 (foldN (wsum s'.data.toList) : Int)) := by
  refine Gives.of ?_
  have HN := Lib.hid hN
  have hw : ∀ k, wsum (s'.data.toList.take k) < 18446744073709551615 := fun k => by have := wsum_take_le s'.data.toList k; rw [size_toList] at this; omega
  have HW := Lib.hid hw
  have hall : s'.data.toList.take (2 * N) = s'.data.toList := List.take_of_length_le (by rw [size_toList]; omega)
  have HA := Lib.hid hall
  clear hall hw
  rcases h with ⟨hp, he⟩ | ⟨hp, he⟩
  case' inl =>
    have hb : (((s.size : Int) % 2) == 1) = true := by rw [show (s.size : Int) % 2 = 1 by omega]; rfl
    have hz : s.size + 1 = s'.size := by rw [he, ByteArray.size_append]; rfl
    have hz2 : s.size ≤ 1000000000001 := by omega
    have hz3 : (ByteArray.mk #[0]).size ≤ 1 := by decide
    have HE := Lib.hid he
    clear hp hN hz he
    go_enter Tryz.func58, Tryz.ntmps58
    go_wp2
    rw [← HE.out]
  case' inr =>
    have hb : (((s.size : Int) % 2) == 1) = false := by rw [show (s.size : Int) % 2 = 0 by omega]; rfl
    subst he
    clear hp
    go_enter Tryz.func58, Tryz.ntmps58
    go_wp2
  all_goals
    go_loopw [3, 4] (fun n i wr => ∃ k : Nat, k ≤ N ∧ i = .int .i64 (2 * k : Nat) ∧ n = .int .u64 (wsum (s'.data.toList.take (2 * k)) : Int) ∧ ∃ y : BW w.heap.size w, wr = y.w) (fun _ i _ => 2 * N - (intOf i).toNat)
    case atStart => exact ⟨0, by omega, rfl, rfl, BW.mk (by exact blw), rfl⟩
    case round =>
      obtain ⟨k, hk, rfl, rfl, y, rfl⟩ := hrel
      have hz := HN.out
      by_cases hlt : k < N
      · have hnum : ∀ w, Gives Tryz.prog 22 #[.string (s'.extract (2 * k) (2 * k + 2))] w (.int .u64 (numL ((s'.data.toList.drop (2 * k)).take 2) : Int)) := fun w => by
          have h := rnum_any (s := s'.extract (2 * k) (2 * k + 2)) (w := w) (by rw [← size_toList, toList_extract, List.length_take]; omega)
          rw [toList_extract, Nat.add_sub_cancel_left] at h
          exact h
        have hnext := Lib.hid (wsum_take2 (l := s'.data.toList) (k := k) (by rw [size_toList]; omega))
        have hsm := HW.out (2 * (k + 1))
        rw [hnext.out] at hsm
        go_wp2_with ((with_reducible (first | apply Gives.call_bw (Nat.le_refl _) | apply Gives.call)); (focus (first | (with_reducible exact hnum _))); intro x; (try dsimp only [drew_heap] at x))
        refine ⟨⟨k + 1, by omega, by go_num, ?_, _, rfl⟩, by simp [intOf]; omega⟩
        rw [hnext.out]
        rfl
      · have hf : ∀ w, Gives Tryz.prog 112 #[.int .u64 (wsum (s'.data.toList.take (2 * k)) : Int)] w (.int .i64 (foldN (wsum (s'.data.toList.take (2 * k))) : Int)) := fun w => rFold_any (by have := HW.out (2 * k); omega)
        have hkk : k = N := by omega
        clear hk hlt
        subst hkk
        go_wp2_with ((with_reducible (first | apply Gives.call_bw (Nat.le_refl _) | apply Gives.call)); (focus (first | (with_reducible exact hf _))); intro x; (try dsimp only [drew_heap] at x))
        go_ret
        exact ⟨by rw [HA.out]; rfl, by exact blw⟩
theorem rSum_any {s : ByteArray} {w : World} (hs : s.size ≤ 1000000000000) : Gives Tryz.prog 58 #[.string s] w (.int .i64 (foldN (wsum s.data.toList) : Int)) := by
  by_cases hodd : s.size % 2 = 1
  · have h := rSum_walk (s := s) (s' := s ++ ⟨#[0]⟩) (N := s.size / 2 + 1) (w := w) (by rw [ByteArray.size_append]; show s.size + 1 = _; omega) (by rw [ByteArray.size_append]; show s.size + 1 ≤ _; omega) (.inl ⟨hodd, rfl⟩)
    have e : wsum (s ++ ⟨#[0]⟩).data.toList = wsum s.data.toList := by rw [toList_append]; exact wsum_zero_pad _
    rw [e] at h
    exact h
  · exact rSum_walk (N := s.size / 2) (by omega) (by omega) (.inr ⟨by omega, rfl⟩)
end Go.Proofs.YtdnehjhijmeihaaGreat
