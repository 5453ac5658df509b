/-
  A frame between nodes, by its cells; what bytes are one.
-/
import Derived.Test.YtkkmfcnnnfhmnaaAg
import Derived.Test.YtkkmfcnnnfhmnaaSum
import Derived.Test.YtkkmfcnnnfhmnaaRd
namespace Go.Proofs.Ytkkmfcnnnfhmnaa
open Go.ChangeShapes Go.WideShapes Go.ChangeAt Go.RowKit
set_option linter.unusedVariables false
set_option linter.unusedSimpArgs false

structure Tn where
  ver : Nat
  vlan : Int
  v : Bool
  l : List UInt8
  root : Int
  hop : Int
  b : ByteArray
def Tn.L (p : Tn) : List Value := [.int .u32 p.ver, .int .i64 p.vlan] ++ (addrL p.v p.l ++ [.int .i64 p.root, .int .i64 p.hop, .string p.b])
def inI (n : Int) : Prop := -9223372036854775808 ≤ n ∧ n ≤ 9223372036854775807
structure Tn.Ok (p : Tn) : Prop where
  l : p.l.length = 16
structure Tn.Rg (p : Tn) : Prop where
  ver : p.ver < 4294967296
  vlan : inI p.vlan
  root : inI p.root
  hop : inI p.hop
  b : p.b.size ≤ 9223372036854775807
def tnz : Tn := ⟨0, 0, false, zero16, 0, 0, ⟨#[]⟩⟩
theorem tn_segs (p : Tn) : p.L.toArray = (fls [.one (.int .u32 p.ver), .one (.int .i64 p.vlan), .many (addrL p.v p.l) 17, .one (.int .i64 p.root), .one (.int .i64 p.hop), .one (.string p.b)]).toArray := by simp [Tn.L, fls]
theorem tnz_segs : (tnz.L).toArray = (fls [.one (.int .u32 0), .one (.int .i64 0), .many (zeroL Try.prog 29) 17, .one (.int .i64 0), .one (.int .i64 0), .one (.string ⟨#[]⟩)]).toArray := by rw [tn_segs, ← zaddr]; rfl
theorem tnz_ok : tnz.Ok := ⟨rfl⟩
theorem tnz_rg : tnz.Rg := ⟨by decide, ⟨by decide, by decide⟩, ⟨by decide, by decide⟩, ⟨by decide, by decide⟩, by decide⟩
section
variable {p : Tn}
theorem Tn.Ok.len (h : p.Ok) : p.L.length = 22 := by simp [Tn.L, addrL, h.l]
theorem Tn.Ok.size (h : p.Ok) : p.L.toArray.size = 22 := by rw [List.size_toArray, h.len]
theorem lits_u32 {P : Program} {t : TypeId} {d : Nat} {n : Nat} (hu : P.underlying t = some (.int .u32)) (h : n < 4294967296) : P.keyLits (d + 1) t [.int .u32 (n : Int)] = some [.int .u32 (n : Int)] := by
  unfold Program.keyLits
  rw [hu]
  simp only [true_and]
  rw [if_pos]
  simp only [Lit.wf, Bool.and_eq_true, decide_eq_true_eq]
  exact ⟨show (0 : Int) ≤ _ by omega, show _ ≤ (4294967295 : Int) by omega⟩
theorem Tn.Ok.lits (h : p.Ok) (r : p.Rg) : ∃ l, Try.prog.keyLits 9 31 p.L = some l := by
  have ci : Try.prog.cellsOf 3 = 1 := by kernel_rfl
  have cu : Try.prog.cellsOf 26 = 1 := by kernel_rfl
  have ca : Try.prog.cellsOf 29 = 17 := by kernel_rfl
  have cs : Try.prog.cellsOf 9 = 1 := by kernel_rfl
  have l1 := addrL_length (v := p.v) h.l
  have e0 : (p.L.drop 0).take 1 = [Value.int .u32 p.ver] := rfl
  have e1 : (p.L.drop 1).take 1 = [Value.int .i64 p.vlan] := rfl
  have e2 : (p.L.drop 2).take 17 = addrL p.v p.l := by
    show (addrL p.v p.l ++ [Value.int .i64 p.root, .int .i64 p.hop, .string p.b]).take 17 = _
    rw [List.take_append_of_le_length (by omega), List.take_of_length_le (by omega)]
  have ed : ∀ i, (p.L.drop (19 + i)) = [Value.int .i64 p.root, .int .i64 p.hop, .string p.b].drop i := fun i => by
    rw [show 19 + i = 2 + (17 + i) by omega, ← List.drop_drop]
    show ((addrL p.v p.l ++ [Value.int .i64 p.root, .int .i64 p.hop, .string p.b]).drop (17 + i)) = _
    rw [List.drop_append, List.drop_of_length_le (by omega), List.nil_append, l1, Nat.add_sub_cancel_left]
  have e3 : (p.L.drop 19).take 1 = [Value.int .i64 p.root] := by rw [ed 0]; rfl
  have e4 : (p.L.drop 20).take 1 = [Value.int .i64 p.hop] := by rw [ed 1]; rfl
  have e5 : (p.L.drop 21).take 1 = [Value.string p.b] := by rw [ed 2]; rfl
  refine ⟨_, lits_struct (d := 8) Try.underlying31 (by rw [h.len]; kernel_rfl) (by kernel_rfl) (ls := [[Lit.int .u32 p.ver], [Lit.int .i64 p.vlan], Lit.bool p.v :: p.l.map (fun b => Lit.int .u8 (b.toNat : Int)), [Lit.int .i64 p.root], [Lit.int .i64 p.hop], [Lit.string p.b.data.toList]]) ?_⟩
  simp only [List.mapM_cons, List.mapM_nil, ci, cu, ca, cs, e0, e1, e2, e3, e4, e5]
  rw [lits_u32 Try.underlying26 r.ver, lits_i64 Try.underlying3 r.vlan, lits_i64 Try.underlying3 r.root, lits_i64 Try.underlying3 r.hop, addr_lits h.l, lits_str Try.underlying9 r.b]
  rfl
theorem Tn.Ok.formed (h : p.Ok) : (Value.agg p.L.toArray).formed Try.prog 31 = true := by
  unfold Value.formed
  rw [Try.underlying31]
  simp only [h.size, beq_iff_eq]
  kernel_rfl
theorem Tn.Ok.refl (h : p.Ok) (r : p.Rg) (w : World) : (binOp .eql 31 (.agg p.L.toArray) (.agg p.L.toArray)).run Try.prog w = .ok (.bool true) w := by
  obtain ⟨l, hl⟩ := h.lits r
  exact eql_cells (by kernel_rfl) h.formed h.formed hl hl true (by simp) w
theorem tn_open {W : World} {base : Nat} {v : Value} (g : Value.okWide Try.prog W .any base 31 v) : ∃ p : Tn, v = .agg p.L.toArray ∧ p.Ok ∧ p.Rg := by
  obtain ⟨cs, rfl, hc⟩ := open_agg_struct (ts := [26, 3] ++ (4 :: (List.replicate 16 5 ++ [3, 3, 9]))) Try.underlying31 (by kernel_rfl) (by kernel_rfl) g
  obtain ⟨x1, c1, rfl, h1, k1⟩ := cellsAll_cons hc
  obtain ⟨x2, c2, rfl, h2, k2⟩ := cellsAll_cons k1
  obtain ⟨x3, c3, rfl, h3, k3⟩ := cellsAll_cons k2
  obtain ⟨xa, c4, rfl, ha, k4⟩ := cellsAll_append _ _ k3
  obtain ⟨x5, c5, rfl, h5, k5⟩ := cellsAll_cons k4
  obtain ⟨x6, c6, rfl, h6, k6⟩ := cellsAll_cons k5
  obtain ⟨x7, c7, rfl, h7, k7⟩ := cellsAll_cons k6
  obtain rfl := cellsAll_nil k7
  obtain ⟨ver, rfl, r1⟩ := cell_u32 Try.underlying26 h1
  obtain ⟨vlan, rfl, r2⟩ := cell_i64 Try.underlying3 h2
  obtain ⟨va, rfl⟩ := cell_bool Try.underlying4 h3
  obtain ⟨la, hla, rfl⟩ := cells_u8 Try.underlying5 16 ha
  obtain ⟨root, rfl, r5⟩ := cell_i64 Try.underlying3 h5
  obtain ⟨hop, rfl, r6⟩ := cell_i64 Try.underlying3 h6
  obtain ⟨s, rfl, hs⟩ := cell_string Try.underlying9 h7
  exact ⟨⟨ver, vlan, va, la, root, hop, s⟩, rfl, ⟨hla⟩, ⟨r1, r2, r5, r6, hs⟩⟩
end
def by6 (s : ByteArray) (i : Nat) : Nat := (s.data.toList[i]?.getD 0).toNat
theorem by6_lt (s : ByteArray) (i : Nat) : by6 s i < 256 := by have := (s.data.toList[i]?.getD 0).toNat_lt; unfold by6; omega
theorem by6_get {s : ByteArray} {i : Nat} (h : i < s.size) : s[i].toNat = by6 s i := by unfold by6; rw [getElem_toList s i h]; rfl
theorem numAt_one {s : ByteArray} {k : Nat} (h : k < s.size) : numAt s k 1 = by6 s k := by
  have hl : k < s.data.toList.length := by rw [size_toList]; exact h
  unfold numAt by6
  rw [List.drop_eq_getElem_cons hl, List.take_succ_cons, List.take_zero, List.getElem?_eq_getElem hl]
  simp [numL]
theorem rNumAt {s : ByteArray} {i j : Nat} {w : World} (h : i ≤ j) (hj : j ≤ i + 8) : Gives Try.prog 22 #[.string (s.extract i j)] w (.int .u64 (numAt s i (j - i) : Int)) := by
  have := rnum_any (s := s.extract i j) (w := w) (Nat.le_trans (cut_size2 s i j) (by omega))
  rwa [toList_extract] at this
def gT (p : Tn) : Bool := (goodA p.v p.l && (zeroA p.l || groupA p.v p.l)) && decide (0 ≤ p.vlan ∧ p.vlan ≤ 4094) && decide (0 ≤ p.root ∧ p.root ≤ 65535) && decide (0 ≤ p.hop ∧ p.hop ≤ 255) && decide (p.b.size ≤ 1600)
def wA (v : Bool) (hop : Nat) : ByteArray := str (putL 77 1) ++ str (putL (if v then 1 else 0) 1) ++ str (putL hop 1) ++ str (putL 0 1)
def wB (ver vlan : Nat) (v : Bool) (l : List UInt8) (root : Nat) (b : ByteArray) : ByteArray := str (putL ver 4) ++ str (putL vlan 2) ++ str (putL root 2) ++ str (putL b.size 2) ++ str (bytesA v l) ++ b
def wNN (ver vlan : Nat) (v : Bool) (l : List UInt8) (root hop : Nat) (b : ByteArray) : ByteArray :=
  wA v hop ++ str (putL (65535 - foldN (wsum (flat [wA v hop, wB ver vlan v l root b]))) 2) ++ wB ver vlan v l root b
def wT (p : Tn) : ByteArray := wNN p.ver p.vlan.toNat p.v p.l p.root.toNat p.hop.toNat p.b
/-- how wide the group is, how many bytes the frame has -/
def wdT (s : ByteArray) : Nat := if by6 s 1 = 1 then 16 else 4
def szT (s : ByteArray) : Nat := numAt s 14 2
def tOf (s : ByteArray) : Tn := ⟨numAt s 6 4, numAt s 10 2, by6 s 1 == 1, adOf (s.extract 16 (16 + wdT s)), numAt s 12 2, by6 s 2, s.extract (16 + wdT s) (16 + wdT s + szT s)⟩
def badT (s : ByteArray) : Prop := gT (tOf s) = false ∨ wT (tOf s) ≠ s
instance (s : ByteArray) : Decidable (badT s) := inferInstanceAs (Decidable (_ ∨ _))
def preT (s : ByteArray) : Int := if s.size < 20 then 3 else if by6 s 0 ≠ 77 then 5 else if foldN (wsum s.data.toList) ≠ 65535 then 4 else if s.size < 16 + wdT s + szT s then 3 else if 1600 < szT s then 6 else 0
def errT (s : ByteArray) : Int := if preT s ≠ 0 then preT s else if badT s then 2 else 0
def tnOf (s : ByteArray) : Tn := if errT s ≠ 0 then tnz else tOf s
theorem wdT_le (s : ByteArray) : wdT s ≤ 16 := by unfold wdT; split <;> omega
theorem tOf_ok (s : ByteArray) : (tOf s).Ok := ⟨adOf_length (Nat.le_trans (cut_size2 s _ _) (by have := wdT_le s; omega))⟩
theorem numAt2 (s : ByteArray) (k : Nat) : numAt s k 2 < 65536 := numAt_lt s k 2
theorem numAt4 (s : ByteArray) (k : Nat) : numAt s k 4 < 4294967296 := numAt_lt s k 4
theorem tOf_rg (s : ByteArray) (hs : s.size ≤ 100000) : (tOf s).Rg := by
  have h1 := numAt2 s 10
  have h2 := numAt2 s 12
  have h3 := by6_lt s 2
  have h4 : (tOf s).b.size ≤ 65536 := by
    have h := cut_size2 s (16 + wdT s) (16 + wdT s + szT s)
    have := numAt2 s 14
    show (s.extract (16 + wdT s) (16 + wdT s + szT s)).size ≤ 65536
    unfold szT at *
    omega
  exact ⟨numAt4 s 6, ⟨by show (-9223372036854775808 : Int) ≤ (numAt s 10 2 : Int); omega, by show (numAt s 10 2 : Int) ≤ _; omega⟩, ⟨by show (-9223372036854775808 : Int) ≤ (numAt s 12 2 : Int); omega, by show (numAt s 12 2 : Int) ≤ _; omega⟩, ⟨by show (-9223372036854775808 : Int) ≤ (by6 s 2 : Int); omega, by show (by6 s 2 : Int) ≤ _; omega⟩, by omega⟩
theorem tnOf_ok (s : ByteArray) : (tnOf s).Ok := by unfold tnOf; split; exact tnz_ok; exact tOf_ok s
theorem tnOf_rg (s : ByteArray) (hs : s.size ≤ 100000) : (tnOf s).Rg := by unfold tnOf; split; exact tnz_rg; exact tOf_rg s hs
theorem tnOf_good (s : ByteArray) (h : errT s = 0) : gT (tnOf s) = true ∧ wT (tnOf s) = s := by
  unfold tnOf
  rw [if_neg (by rw [h]; decide)]
  unfold errT at h
  by_cases hp : preT s = 0
  · rw [if_neg (by rw [hp]; decide)] at h
    by_cases hb : badT s
    · rw [if_pos hb] at h; exact absurd h (by decide)
    · unfold badT at hb
      constructor
      · cases hg : gT (tOf s)
        · exact absurd (.inl hg) hb
        · rfl
      · exact Classical.byContradiction fun hw => hb (.inr hw)
  · rw [if_pos hp] at h; exact absurd h hp
end Go.Proofs.Ytkkmfcnnnfhmnaa
