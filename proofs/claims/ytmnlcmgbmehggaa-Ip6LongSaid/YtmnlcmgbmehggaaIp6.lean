/-
  A packet of IPv6, by its cells.
-/
import Derived.Test.YtmnlcmgbmehggaaAddr
import Derived.Test.YtmnlcmgbmehggaaTab
namespace Go.Proofs.Ytmnlcmgbmehggaa
open Go.ChangeShapes Go.WideShapes Go.ChangeAt Go.RowKit
set_option linter.unusedVariables false
set_option linter.unusedSimpArgs false

/-- a packet, by its cells -/
structure P6 where
  tos : Int
  id : Int
  ttl : Int
  proto : Int
  va : Bool
  la : List UInt8
  vb : Bool
  lb : List UInt8
  al : Bool
  b : ByteArray
def P6.L (p : P6) : List Value := [.int .i64 p.tos, .int .i64 p.id, .int .i64 p.ttl, .int .i64 p.proto] ++ (addrL p.va p.la ++ (addrL p.vb p.lb ++ [.bool p.al, .string p.b]))
structure P6.Ok (p : P6) : Prop where
  a : p.la.length = 16
  b : p.lb.length = 16
def inI (n : Int) : Prop := -9223372036854775808 ≤ n ∧ n ≤ 9223372036854775807
structure P6.Rg (p : P6) : Prop where
  tos : inI p.tos
  id : inI p.id
  ttl : inI p.ttl
  proto : inI p.proto
  b : p.b.size ≤ 9223372036854775807
section
variable {p : P6}
theorem P6.Ok.len (h : p.Ok) : p.L.length = 40 := by simp [P6.L, addrL, h.a, h.b]
theorem P6.Ok.size (h : p.Ok) : p.L.toArray.size = 40 := by rw [List.size_toArray, h.len]
theorem P6.one : p.L.toArray.all (·.oneCell') = true := by
  refine oneL _ ?_
  simp [P6.L, addrL, List.all_append, List.all_map]
  exact ⟨rfl, rfl, rfl, rfl, rfl, fun _ _ => rfl, rfl, fun _ _ => rfl, rfl, rfl⟩
theorem P6.c0 : p.L[0]? = some (.int .i64 p.tos) := rfl
theorem P6.c1 : p.L[1]? = some (.int .i64 p.id) := rfl
theorem P6.c2 : p.L[2]? = some (.int .i64 p.ttl) := rfl
theorem P6.c3 : p.L[3]? = some (.int .i64 p.proto) := rfl
theorem P6.Ok.tail (h : p.Ok) (i : Nat) : p.L[38 + i]? = [Value.bool p.al, .string p.b][i]? := by
  rw [P6.L, List.getElem?_append_right (by simp; omega), List.getElem?_append_right (by simp [addrL, h.a]; omega), List.getElem?_append_right (by simp [addrL, h.a, h.b]; omega)]
  congr 1
  simp [addrL, h.a, h.b]
  omega
theorem P6.Ok.c38 (h : p.Ok) : p.L[38]? = some (.bool p.al) := h.tail 0
theorem P6.Ok.c39 (h : p.Ok) : p.L[39]? = some (.string p.b) := h.tail 1
theorem P6.Ok.set39 (h : p.Ok) (x : ByteArray) : p.L.set 39 (.string x) = P6.L { p with b := x } := by
  rw [P6.L, List.set_append_right _ _ (by simp), List.set_append_right _ _ (by simp [addrL, h.a]), List.set_append_right _ _ (by simp [addrL, h.a, h.b])]
  simp [addrL, h.a, h.b, P6.L]
theorem P6.set2 (x : Int) : p.L.set 2 (.int .i64 x) = P6.L { p with ttl := x } := rfl
theorem P6.pa : PartAt p.L.toArray 4 (addrV p.va p.la) := ⟨[.int .i64 p.tos, .int .i64 p.id, .int .i64 p.ttl, .int .i64 p.proto], addrL p.vb p.lb ++ [Value.bool p.al, .string p.b], by rw [addrV_list]; rfl, rfl⟩
theorem P6.Ok.pb (h : p.Ok) : PartAt p.L.toArray 21 (addrV p.vb p.lb) := ⟨[.int .i64 p.tos, .int .i64 p.id, .int .i64 p.ttl, .int .i64 p.proto] ++ addrL p.va p.la, [Value.bool p.al, .string p.b], by rw [addrV_list]; simp [P6.L], by simp [addrL, h.a]⟩
theorem P6.Ok.lits (h : p.Ok) (r : p.Rg) : ∃ l, Try.prog.keyLits 9 32 p.L = some l := by
  have ci : Try.prog.cellsOf 3 = 1 := by kernel_rfl
  have ca : Try.prog.cellsOf 30 = 17 := by kernel_rfl
  have cb : Try.prog.cellsOf 4 = 1 := by kernel_rfl
  have cs : Try.prog.cellsOf 9 = 1 := by kernel_rfl
  have e0 : (p.L.drop 0).take 1 = [Value.int .i64 p.tos] := rfl
  have e1 : (p.L.drop 1).take 1 = [Value.int .i64 p.id] := rfl
  have e2 : (p.L.drop 2).take 1 = [Value.int .i64 p.ttl] := rfl
  have e3 : (p.L.drop 3).take 1 = [Value.int .i64 p.proto] := rfl
  have l1 := addrL_length (v := p.va) h.a
  have l2 := addrL_length (v := p.vb) h.b
  have e4 : (p.L.drop 4).take 17 = addrL p.va p.la := by
    show (addrL p.va p.la ++ (addrL p.vb p.lb ++ [Value.bool p.al, .string p.b])).take 17 = _
    rw [List.take_append_of_le_length (by omega), List.take_of_length_le (by omega)]
  have e5 : (p.L.drop 21).take 17 = addrL p.vb p.lb := by
    show ((addrL p.va p.la ++ (addrL p.vb p.lb ++ [Value.bool p.al, .string p.b])).drop 17).take 17 = _
    rw [List.drop_append, List.drop_of_length_le (by omega), List.nil_append, show 17 - (addrL p.va p.la).length = 0 by omega, List.drop_zero, List.take_append_of_le_length (by omega), List.take_of_length_le (by omega)]
  have e6 : (p.L.drop 38).take 1 = [Value.bool p.al] := by
    rw [List.drop_eq_getElem_cons (by rw [h.len]; omega), List.take_succ_cons, List.take_zero]
    have := h.c38
    rw [List.getElem?_eq_getElem (by rw [h.len]; omega)] at this
    injection this with this
    rw [this]
  have e7 : (p.L.drop 39).take 1 = [Value.string p.b] := by
    rw [List.drop_eq_getElem_cons (by rw [h.len]; omega), List.take_succ_cons, List.take_zero]
    have := h.c39
    rw [List.getElem?_eq_getElem (by rw [h.len]; omega)] at this
    injection this with this
    rw [this]
  refine ⟨_, lits_struct (d := 8) Try.underlying32 (by rw [h.len]; kernel_rfl) (by kernel_rfl) (ls := [[Lit.int .i64 p.tos], [Lit.int .i64 p.id], [Lit.int .i64 p.ttl], [Lit.int .i64 p.proto], Lit.bool p.va :: p.la.map (fun b => Lit.int .u8 (b.toNat : Int)), Lit.bool p.vb :: p.lb.map (fun b => Lit.int .u8 (b.toNat : Int)), [Lit.bool p.al], [Lit.string p.b.data.toList]]) ?_⟩
  simp only [List.mapM_cons, List.mapM_nil, ci, ca, cb, cs, e0, e1, e2, e3, e4, e5, e6, e7]
  rw [lits_i64 Try.underlying3 r.tos, lits_i64 Try.underlying3 r.id, lits_i64 Try.underlying3 r.ttl, lits_i64 Try.underlying3 r.proto, addr_lits h.a, addr_lits h.b, lits_bool Try.underlying4, lits_str Try.underlying9 r.b]
  rfl
theorem P6.Ok.formed (h : p.Ok) : (Value.agg p.L.toArray).formed Try.prog 32 = true := by
  unfold Value.formed
  rw [Try.underlying32]
  simp only [h.size, beq_iff_eq]
  kernel_rfl
theorem P6.Ok.refl (h : p.Ok) (r : p.Rg) (w : World) : (binOp .eql 32 (.agg p.L.toArray) (.agg p.L.toArray)).run Try.prog w = .ok (.bool true) w := by
  obtain ⟨l, hl⟩ := h.lits r
  exact eql_cells (by kernel_rfl) h.formed h.formed hl hl true (by simp) w
end
def p6z : P6 := ⟨0, 0, 0, 0, false, zero16, false, zero16, false, ⟨#[]⟩⟩
theorem p6z_ok : p6z.Ok := ⟨rfl, rfl⟩
theorem p6z_rg : p6z.Rg := ⟨⟨by decide, by decide⟩, ⟨by decide, by decide⟩, ⟨by decide, by decide⟩, ⟨by decide, by decide⟩, by decide⟩
theorem p6_build {tos id ttl proto : Int} {va vb al : Bool} {la lb : List UInt8} {b : ByteArray} (ha : la.length = 16) (hb : lb.length = 16) (w : World) :
    (Instr.build 32 #[(0, .int .i64 tos), (1, .int .i64 id), (2, .int .i64 ttl), (3, .int .i64 proto), (4, .agg (addrV va la)), (5, .agg (addrV vb lb)), (6, .bool al), (7, .string b)]).run Try.prog w = .ok (.agg (P6.L ⟨tos, id, ttl, proto, va, la, vb, lb, al, b⟩).toArray) w := by
  obtain ⟨a0, a1, a2, a3, a4, a5, a6, a7, a8, a9, a10, a11, a12, a13, a14, a15, rfl⟩ := sixteen ha
  obtain ⟨b0, b1, b2, b3, b4, b5, b6, b7, b8, b9, b10, b11, b12, b13, b14, b15, rfl⟩ := sixteen hb
  exact run_build w _ _ _ (by kernel_rfl)
theorem p6_build0 (w : World) : (Instr.build 32 #[]).run Try.prog w = .ok (.agg p6z.L.toArray) w := run_build w _ _ _ (by kernel_rfl)
theorem p6_open {W : World} {base : Nat} {v : Value} (g : Value.okWide Try.prog W .any base 32 v) : ∃ p : P6, v = .agg p.L.toArray ∧ p.Ok ∧ p.Rg := by
  obtain ⟨cs, rfl, hc⟩ := open_agg_struct (ts := [3, 3, 3, 3] ++ (4 :: (List.replicate 16 5 ++ (4 :: (List.replicate 16 5 ++ [4, 9]))))) Try.underlying32 (by kernel_rfl) (by kernel_rfl) g
  obtain ⟨x1, c1, rfl, h1, k1⟩ := cellsAll_cons hc
  obtain ⟨x2, c2, rfl, h2, k2⟩ := cellsAll_cons k1
  obtain ⟨x3, c3, rfl, h3, k3⟩ := cellsAll_cons k2
  obtain ⟨x4, c4, rfl, h4, k4⟩ := cellsAll_cons k3
  obtain ⟨x5, c5, rfl, h5, k5⟩ := cellsAll_cons k4
  obtain ⟨xa, c6, rfl, ha, k6⟩ := cellsAll_append _ _ k5
  obtain ⟨x7, c7, rfl, h7, k7⟩ := cellsAll_cons k6
  obtain ⟨xb, c8, rfl, hb, k8⟩ := cellsAll_append _ _ k7
  obtain ⟨x9, c9, rfl, h9, k9⟩ := cellsAll_cons k8
  obtain ⟨x10, c10, rfl, h10, k10⟩ := cellsAll_cons k9
  obtain rfl := cellsAll_nil k10
  obtain ⟨tos, rfl, r1⟩ := cell_i64 Try.underlying3 h1
  obtain ⟨id, rfl, r2⟩ := cell_i64 Try.underlying3 h2
  obtain ⟨ttl, rfl, r3⟩ := cell_i64 Try.underlying3 h3
  obtain ⟨proto, rfl, r4⟩ := cell_i64 Try.underlying3 h4
  obtain ⟨va, rfl⟩ := cell_bool Try.underlying4 h5
  obtain ⟨la, hla, rfl⟩ := cells_u8 Try.underlying5 16 ha
  obtain ⟨vb, rfl⟩ := cell_bool Try.underlying4 h7
  obtain ⟨lb, hlb, rfl⟩ := cells_u8 Try.underlying5 16 hb
  obtain ⟨al, rfl⟩ := cell_bool Try.underlying4 h9
  obtain ⟨s, rfl, hs⟩ := cell_string Try.underlying9 h10
  exact ⟨⟨tos, id, ttl, proto, va, la, vb, lb, al, s⟩, rfl, ⟨hla, hlb⟩, ⟨r1, r2, r3, r4, hs⟩⟩
theorem addrL_one {v : Bool} {l : List UInt8} : ∀ x ∈ addrL v l, x.oneCell' = true := List.all_eq_true.1 (by have h := addrV_one (v := v) (l := l); unfold addrV at h; simpa using h)
theorem okA_addr {v : Bool} {l : List UInt8} (h : l.length = 16) : OkA (addrL v l) 17 := ⟨addrL_length h, addrL_one⟩
theorem p6_segs (p : P6) : p.L.toArray = (fls [.one (.int .i64 p.tos), .one (.int .i64 p.id), .one (.int .i64 p.ttl), .one (.int .i64 p.proto), .many (addrL p.va p.la) 17, .many (addrL p.vb p.lb) 17, .one (.bool p.al), .one (.string p.b)]).toArray := rfl
theorem zaddr : addrL false zero16 = zeroL Try.prog 30 := by kernel_rfl
theorem cut_size (b : ByteArray) (m : Nat) : (b.extract 0 m).size ≤ m := by rw [← size_toList, toList_extract, List.length_take]; omega
end Go.Proofs.Ytmnlcmgbmehggaa
