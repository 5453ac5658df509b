/-
  Memory of a call's own: a block known whole; append of one element; bytes made into a string. No program in sight.
-/
import Derived.Test.YtnobencogihbnaaGreatNum
import Derived.Laws.BytesArg
import Derived.Laws.MakeOwn
namespace Go.Proofs.YtnobencogihbnaaGreat
open Go.RowKit
set_option linter.unusedVariables false

/-- block g is just the cells cs of type t -/
def Row (w : World) (g : Nat) (t : TypeId) (cs : Array Value) : Prop := w.heap[g]? = some (.cells cs t (0, 0))
section
variable {w w' : World} {g : Nat} {t : TypeId} {cs : Array Value}
theorem Row.lt (h : Row w g t cs) : g < w.heap.size := by
  unfold Row at h
  by_cases hlt : g < w.heap.size
  · exact hlt
  · rw [Array.getElem?_eq_none (by omega)] at h
    cases h
theorem Row.cell (h : Row w g t cs) (i : Nat) : w.cell? ⟨g, i, none⟩ = cs[i]? := cell_of_row w g i cs t (0, 0) h
theorem Row.frozen (h : Row w g t cs) (i : Nat) : w.frozen? ⟨g, i, none⟩ = false := frozen_of_row w g i cs t h
theorem Row.new (w : World) (t : TypeId) (cs : Array Value) : Row (w.alloc (.cells cs t)) w.heap.size t cs := heap_alloc_new w _
theorem Row.drew (h : Row w g t cs) : Row w.drew g t cs := h
theorem Row.alloc (h : Row w g t cs) (o : Obj) : Row (w.alloc o) g t cs := (Below.heap_alloc w o g h.lt).trans h
theorem Row.set (h : Row w g t cs) (i : Nat) (u : Value) : Row (w.setCell ⟨g, i, none⟩ u) g t (cs.setIfInBounds i u) := heap_setCell_same w g i cs t u h
theorem Row.far (h : Row w g t cs) {p : Addr} (hp : g ≠ p.block) (u : Value) : Row (w.setCell p u) g t cs := (heap_setCell_other w p g u hp).trans h
theorem Row.below {B : Nat} (h : Row w g t cs) (hb : Below B w w') (hg : g < B) : Row w' g t cs := (hb.block g hg).trans h
theorem Row.bw {B : Nat} {x : BW B w} (h : Row w g t cs) (hg : g < B) : Row x.w g t cs := h.below x.below hg
end

theorem own_below {w w' : World} {base : Nat} {e : TypeId} {size n : Nat} {v : Value} {xs : List Value} (h : w.ownsRow base e size v n xs) (hb : Below w.heap.size w w') : w'.ownsRow base e size v n xs := by
  obtain ⟨h1, h2⟩ := h
  refine ⟨h1, ?_⟩
  rcases h2 with h2 | ⟨g, cap, cur, hv, hg, hh, r⟩
  · exact .inl h2
  · exact .inr ⟨g, cap, cur, hv, hg, (hb.block g (Row.lt (t := e) (cs := cur) hh)).trans hh, r⟩
/-! only block g, and what is new, has turned -/
theorem gb_set {a w : World} {g : Nat} (h : a.grownBy w (some g)) (i : Nat) (u : Value) : a.grownBy (w.setCell ⟨g, i, none⟩ u) (some g) :=
  ⟨h.os, h.tape, h.output, by simpa [World.setCell] using h.size, fun k hk hne => (Below.heap_setCell w ⟨g, i, none⟩ u k (fun e => hne (by rw [e]))).trans (h.block k hk hne)⟩
theorem gb_drewN {a w : World} {row : Option Nat} (h : a.grownBy w row) (n : Nat) : a.grownBy (w.drewN n) row := ⟨h.os, h.tape, h.output, h.size, h.block⟩
theorem gb_trans {a b c : World} {g : Nat} (h : a.grownBy b (some g)) (k : b.grownBy c (some g)) : a.grownBy c (some g) :=
  ⟨k.os.trans h.os, k.tape.trans h.tape, k.output.trans h.output, Nat.le_trans h.size k.size, fun i hi hne => (k.block i (Nat.lt_of_lt_of_le hi h.size) hne).trans (h.block i hi hne)⟩
theorem gb_below {a w : World} {g : Nat} (h : Below a.heap.size a w) : a.grownBy w (some g) := ⟨h.os, h.tape, h.output, h.size, fun i hi _ => h.block i hi⟩
theorem below_gb {B : Nat} {a b c : World} {g : Nat} (h : Below B a b) (k : b.grownBy c (some g)) (hg : B ≤ g) (hB : B ≤ b.heap.size) : Below B a c :=
  h.grown k hB (fun i hi => by injection hi with hi; omega)
/-- a slice type of elements of one cell -/
def Elem1 (P : Program) (t e : TypeId) (bytes : Nat) : Prop := P.underlying t = some (.slice e) ∧ ∃ i z, P.info? e = some i ∧ i.zero = some z ∧ i.size = 1 ∧ i.bytes = bytes ∧ z.cells.size = 1
theorem elem1_mk {P : Program} {t e : TypeId} {bytes : Nat} {z : Value} (h : P.underlying t = some (.slice e)) (hi : (P.info? e).map (fun i => (i.zero, i.size, i.bytes)) = some (some z, 1, bytes)) (hz : z.cells.size = 1) : Elem1 P t e bytes := by
  obtain ⟨i, h1, h2, h3, h4⟩ := info_parts hi
  exact ⟨h, i, z, h1, h2, h3, h4, hz⟩

theorem wpList_app1 {P : Program} {ops : Array Oper} {rest : List Oper} {o : Oper} {a : Act} {Q : Exit → Act → World → Prop} {t e : TypeId} {bytes : Nat} (hE : Elem1 P t e bytes) (hgd : o.guard = none) (s x : Operand)
    (ho : o.op = .call { callee := .builtin .append, args := #[s, x], argTypes := #[t, t] })
    {base : Nat} {v u : Value} {n : Nat} {xs : List Value} {w : World} (hs : a.eval s = v) (hx : a.eval x = .slice (some ⟨w.heap.size, 0, none⟩) 1 1)
    (hown : w.ownsRow base e 1 v n xs) (h1 : u.oneCell' = true) (hn : (n + 1) * bytes ≤ 140737488355328) (h63 : n + 1 ≤ maxLen) (hbase : base ≤ w.heap.size)
    (h : ∀ v' w', w'.ownsRow base e 1 v' (n + 1) (xs ++ [u]) → Below base w w' → wpList P ops Q rest (a.put o.dst v') w') : wpList P ops Q (o :: rest) a (w.alloc (.cells #[u] e)) := by
  obtain ⟨ht, i, z, hi, hz, hsz, hby, hzs⟩ := hE
  refine wpList_append_own (w.alloc (.cells #[u] e)) hgd s x t ho base e i z 1 bytes ht hi hz hsz hby hzs (by omega) v n xs hs (hown.alloc _) ⟨w.heap.size, 0, none⟩ 1 1 [u] hx rfl ?_ ?_ h63 hn (by simp; omega) ?_
  · intro j y hy
    cases j with
    | zero =>
      simp at hy
      subst hy
      rw [show (⟨w.heap.size, 0, none⟩ : Addr).add 0 = ⟨w.heap.size, 0, none⟩ from rfl, (Row.new w e #[u]).cell]
      rfl
    | succ j => simp at hy
  · intro y hy
    simp at hy
    subst hy
    exact h1
  · intro v' w' ho' hg _
    refine h v' w' ho' (((Below.refl base w).alloc hbase _).grown hg (by simp; omega) ?_)
    intro k hk
    rcases hown.2 with ⟨rfl, _⟩ | ⟨g, cap, cur, rfl, hg', _⟩
    · cases hk
    · injection hk with hk
      subst hk
      exact hg'

/-- append of new cells that lie in a block of their own, onto a row of the call's own: at one operation -/
theorem wp_appN {P : Program} {o : Oper} {a : Act} {K : Act → World → Prop} {Q : Exit → Act → World → Prop} {t e : TypeId} {bytes : Nat} (hE : Elem1 P t e bytes) (s x : Operand)
    (ho : o.op = .call { callee := .builtin .append, args := #[s, x], argTypes := #[t, t] })
    {base g m c : Nat} {v : Value} {n : Nat} {xs news : List Value} {w : World} (hs : a.eval s = v) (hx : a.eval x = .slice (some ⟨g, 0, none⟩) m c)
    (hrow : Row w g e news.toArray) (hl : news.length = m) (hown : w.ownsRow base e 1 v n xs) (h1 : ∀ u ∈ news, u.oneCell' = true) (hn : (n + m) * bytes ≤ 140737488355328) (h63 : n + m ≤ maxLen) (hbase : base ≤ w.heap.size)
    (h : ∀ v' w', w'.ownsRow base e 1 v' (n + m) (xs ++ news) → Below base w w' → K (a.put o.dst v') w') : o.wp P a w K Q := by
  obtain ⟨ht, i, z, hi, hz, hsz, hby, hzs⟩ := hE
  refine wp_append_own w s x t ho base e i z 1 bytes ht hi hz hsz hby hzs (by omega) v n xs hs hown ⟨g, 0, none⟩ m c news hx (by omega) ?_ h1 h63 hn hbase ?_
  · intro j y hy
    have e1 : (⟨g, 0, none⟩ : Addr).add j = ⟨g, j, none⟩ := by unfold Addr.add; split <;> simp_all
    rw [e1, hrow.cell]
    simpa using hy
  · intro v' w' ho' hg _
    refine h v' w' ho' ((Below.refl base w).grown hg hbase ?_)
    intro k hk
    rcases hown.2 with ⟨rfl, _⟩ | ⟨g, cap, cur, rfl, hg', _⟩
    · cases hk
    · injection hk with hk
      subst hk
      exact hg'
/-- .. as one step of a region that draws its order -/
theorem step_appN {P : Program} {ops : Array Oper} {o : Oper} {a : Act} {K : Act → World → Prop} {Q : Exit → Act → World → Prop} {E : Prop} {t e : TypeId} {bytes : Nat} (hE : Elem1 P t e bytes) (hgd : o.guard = none) (s x : Operand)
    (ho : o.op = .call { callee := .builtin .append, args := #[s, x], argTypes := #[t, t] })
    {base g m c : Nat} {v : Value} {n : Nat} {xs news : List Value} {w : World} (hs : a.eval s = v) (hx : a.eval x = .slice (some ⟨g, 0, none⟩) m c)
    (hrow : Row w g e news.toArray) (hl : news.length = m) (hown : w.ownsRow base e 1 v n xs) (h1 : ∀ u ∈ news, u.oneCell' = true) (hn : (n + m) * bytes ≤ 140737488355328) (h63 : n + m ≤ maxLen) (hbase : base ≤ w.heap.size)
    (h : ∀ v' w', w'.ownsRow base e 1 v' (n + m) (xs ++ news) → Below base w w' → K (a.put o.dst v') w') : if Region.wanted o (yielded ops a.tmps) = true then Oper.wp P o a w K Q else E := by
  rw [if_pos (by simp [Region.wanted, hgd])]
  exact wp_appN hE s x ho hs hx hrow hl hown h1 hn h63 hbase h

/-- a string's byte, wherever the index is spelled -/
theorem run_idx {P : Program} {t : TypeId} (ht : P.underlying t = some .string) (s : ByteArray) (i : Nat) (h : i < s.size) (x : Int) (hx : x = (i : Int)) (W : World) :
    (Instr.index t (.string s) (.int .i64 x)).run P W = .ok (.int .u8 (s[i].toNat : Int)) W := by
  subst hx
  rw [run_index_string W t s .i64 _ ht, dif_pos (by omega)]
  rfl
/-! ### bytes in memory, made into a string -/
def byteV (b : UInt8) : Value := .int .u8 (b.toNat : Int)
theorem byteV_one (b : UInt8) : (byteV b).oneCell' = true := rfl
theorem strOf_bytes (l : List UInt8) : strOfNums (l.map fun b => (b.toNat : Int)) = str l := by
  apply data_inj
  rw [strOfNums_data, str_toList, List.map_map]
  have : ∀ l : List UInt8, l.map ((fun n : Int => UInt8.ofNat n.toNat) ∘ fun b => (b.toNat : Int)) = l := by
    intro l
    induction l with
    | nil => rfl
    | cons b l ih => rw [List.map_cons, ih]; simp
  exact this l
/-- string(b), b's bytes lying from an offset on -/
theorem run_str_of {P : Program} {w : World} {src e dst : TypeId} (hs : P.underlying src = some (.slice e)) (he : P.underlying e = some (.int .u8)) (hd : P.underlying dst = some .string)
    {g off len cap : Nat} {l : List UInt8} (hl : l.length = len) (hc : ∀ i b, l[i]? = some b → w.cell? ⟨g, off + i, none⟩ = some (byteV b)) :
    (convert src dst (.slice (some ⟨g, off, none⟩) len cap)).run P w = .ok (.string (str l)) w := by
  rw [← strOf_bytes]
  refine run_convert_bytes_arg w src e hs he g off len cap _ (by simpa using hl) (fun i hi => ?_) dst hd
  have hb : l[i]? = some l[i] := List.getElem?_eq_getElem (by omega)
  rw [hc i _ hb]
  simp [byteV, List.getD, hb]
/-- string(b), b a row of the call's own -/
theorem run_str_own {P : Program} {w : World} {src e dst : TypeId} (hs : P.underlying src = some (.slice e)) (he : P.underlying e = some (.int .u8)) (hd : P.underlying dst = some .string)
    {base n : Nat} {v : Value} {l : List UInt8} (hown : w.ownsRow base e 1 v n (l.map byteV)) : (convert src dst v).run P w = .ok (.string (str l)) w := by
  have hlen : l.length = n := by simpa using hown.1
  rcases hown.2 with ⟨rfl, rfl⟩ | ⟨g, cap, cur, rfl, _, hh, _, _, hsz, hcur⟩
  · obtain rfl : l = [] := List.eq_nil_of_length_eq_zero hlen
    exact run_convert_bytes_nil w src e hs he 0 0 dst hd
  · refine run_str_of hs he hd hlen (fun i b hb => ?_)
    rw [Nat.zero_add, cell_of_row w g i cur e (0, 0) hh]
    have h1 : (l.map byteV)[i]? = some (byteV b) := by simp [hb]
    rw [← hcur] at h1
    have hi : i < l.length := (List.getElem?_eq_some_iff.1 hb).1
    rw [List.getElem?_take_of_lt (by omega)] at h1
    simpa using h1

theorem run_make1 {P : Program} {t e : TypeId} {bytes : Nat} (hE : Elem1 P t e bytes) {z : Value} (hz : (P.info? e).bind (·.zero) = some z) (hz1 : z.cells = #[z]) (n c : Nat) (hnc : n ≤ c) (hb : bytes * c ≤ 281474976710656) (h63 : c ≤ 9223372036854775807) (w : World) :
    (Instr.makeSlice t (.int .i64 (n : Int)) (.int .i64 (c : Int))).run P w = .ok (.slice (some ⟨w.heap.size, 0, none⟩) n c) (w.alloc (.cells (List.replicate c z).toArray e)) := by
  obtain ⟨ht, i, z', hi, hz', hsz, hby, _⟩ := hE
  have : z' = z := by rw [hi] at hz; simpa [hz'] using hz
  subst this
  have h := run_make (P := P) w t e i z' ht hi hz' .i64 .i64 (n : Int) (c : Int) (by omega) (by omega) (by rw [hby]; omega) (by omega)
  rw [Int.toNat_natCast, Int.toNat_natCast, hsz, Nat.mul_one, hz1] at h
  rw [h]
  congr 3
  rw [← toList_madeCells_one]

end Go.Proofs.YtnobencogihbnaaGreat
