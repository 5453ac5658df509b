/-
  Pez: Py, Pe in one text.
-/
import Derived.Shelf.Strconv.Itoa3
import Derived.Shelf.Strings.OnBuilder
import Derived.Test.YtjegjgdihpihoaaGreatDoorProg
import Derived.Test.YtjegjgdihpihoaaGreatDoorDv
import Derived.Test.YtjegjgdihpihoaaGreatDoorPbz
import Derived.Lib.AppendIntMem
import Derived.Lib.TrailingZeros
namespace Go.Proofs.YtjegjgdihpihoaaGreatDoor
section
open Go.Shelf
def laysItoa_ren : Go.Shelf.Ren := ⟨fun | 171 => 29 | 243 => 57 | 246 => 80 | 283 => 93 | 284 => 94 | 285 => 95 | 286 => 96 | 129 => 106 | 317 => 105 | 318 => 107 | 319 => 108 | 320 => 109 | 337 => 114 | 338 => 115 | n => n, fun | 3 => 3 | 9 => 9 | 2 => 2 | 4 => 4 | 171 => 99 | 0 => 0 | 53 => 57 | 37 => 72 | 5 => 5 | 173 => 102 | 212 => 116 | 51 => 117 | 20 => 20 | 213 => 118 | 46 => 94 | 232 => 125 | 233 => 126 | n => n, fun | 17 => 0 | 18 => 2 | 19 => 3 | n => n⟩
theorem laysItoa : Go.Proofs.LaysM.n171 Tryz.prog laysItoa_ren := {
  mixed := by kernel_rfl
  f129 := Tryz.func106.trans (congrArg some (by kernel_rfl))
  f171 := Tryz.func29.trans (congrArg some (by kernel_rfl))
  f243 := Tryz.func57.trans (congrArg some (by kernel_rfl))
  f246 := Tryz.func80.trans (congrArg some (by kernel_rfl))
  f283 := Tryz.func93.trans (congrArg some (by kernel_rfl))
  f284 := Tryz.func94.trans (congrArg some (by kernel_rfl))
  f285 := Tryz.func95.trans (congrArg some (by kernel_rfl))
  f286 := Tryz.func96.trans (congrArg some (by kernel_rfl))
  f317 := Tryz.func105.trans (congrArg some (by kernel_rfl))
  f318 := Tryz.func107.trans (congrArg some (by kernel_rfl))
  f319 := Tryz.func108.trans (congrArg some (by kernel_rfl))
  f320 := Tryz.func109.trans (congrArg some (by kernel_rfl))
  f337 := Tryz.func114.trans (congrArg some (by kernel_rfl))
  f338 := Tryz.func115.trans (congrArg some (by kernel_rfl))
  t0 := Tryz.underlying0
  a0 := Tryz.isAgg0
  z0 := Tryz.sizeOf0
  v0 := Tryz.zeroValue0
  t2 := Tryz.underlying2
  a2 := Tryz.isAgg2
  z2 := Tryz.sizeOf2
  v2 := Tryz.zeroValue2
  t3 := Tryz.underlying3
  a3 := Tryz.isAgg3
  z3 := Tryz.sizeOf3
  v3 := Tryz.zeroValue3
  t4 := Tryz.underlying4
  a4 := Tryz.isAgg4
  z4 := Tryz.sizeOf4
  v4 := Tryz.zeroValue4
  t5 := Tryz.underlying5
  a5 := Tryz.isAgg5
  z5 := Tryz.sizeOf5
  v5 := Tryz.zeroValue5
  t9 := Tryz.underlying9
  a9 := Tryz.isAgg9
  z9 := Tryz.sizeOf9
  v9 := Tryz.zeroValue9
  t20 := Tryz.underlying20
  a20 := Tryz.isAgg20
  z20 := Tryz.sizeOf20
  v20 := Tryz.zeroValue20
  t37 := Tryz.underlying72
  a37 := Tryz.isAgg72
  z37 := Tryz.sizeOf72
  v37 := Tryz.zeroValue72
  t46 := Tryz.underlying94
  a46 := Tryz.isAgg94
  z46 := Tryz.sizeOf94
  v46 := Tryz.zeroValue94
  t51 := Tryz.underlying117
  a51 := Tryz.isAgg117
  z51 := Tryz.sizeOf117
  v51 := Tryz.zeroValue117
  t53 := Tryz.underlying57
  a53 := Tryz.isAgg57
  z53 := Tryz.sizeOf57
  v53 := Tryz.zeroValue57
  t171 := Tryz.underlying99
  a171 := Tryz.isAgg99
  z171 := Tryz.sizeOf99
  v171 := Tryz.zeroValue99
  t173 := Tryz.underlying102
  a173 := Tryz.isAgg102
  z173 := Tryz.sizeOf102
  v173 := Tryz.zeroValue102
  t212 := Tryz.underlying116
  a212 := Tryz.isAgg116
  z212 := Tryz.sizeOf116
  v212 := Tryz.zeroValue116
  t213 := Tryz.underlying118
  a213 := Tryz.isAgg118
  z213 := Tryz.sizeOf118
  t232 := Tryz.underlying125
  a232 := Tryz.isAgg125
  z232 := Tryz.sizeOf125
  v232 := Tryz.zeroValue125
  t233 := Tryz.underlying126
  a233 := Tryz.isAgg126
  z233 := Tryz.sizeOf126
  v233 := Tryz.zeroValue126
  g17 := by kernel_rfl
  g18 := by kernel_rfl
  g19 := by kernel_rfl
  i0 := by kernel_rfl
  i2 := by kernel_rfl
  i3 := by kernel_rfl
  i4 := by kernel_rfl
  i5 := by kernel_rfl
  i9 := by kernel_rfl
  i20 := by kernel_rfl
  i37 := by kernel_rfl
  i46 := by kernel_rfl
  i51 := by kernel_rfl
  i53 := by kernel_rfl
  i171 := by kernel_rfl
  i173 := by kernel_rfl
  i212 := by kernel_rfl
  i232 := by kernel_rfl
  i233 := by kernel_rfl
  m17 := by kernel_rfl
  m18 := by kernel_rfl
  m19 := by kernel_rfl }
def laysJoin_ren : Go.Shelf.Ren := ⟨fun | 156 => 81 | 165 => 97 | 166 => 98 | 169 => 99 | 240 => 110 | 241 => 111 | 276 => 116 | 277 => 117 | n => n, fun | 31 => 86 | 9 => 9 | 3 => 3 | 4 => 4 | 0 => 0 | 20 => 20 | 72 => 106 | 76 => 110 | 70 => 104 | 37 => 72 | 75 => 109 | 127 => 120 | 164 => 122 | 5 => 5 | 80 => 112 | n => n, fun | n => n⟩
theorem laysJoin : Go.Proofs.Lays.n156 Tryz.prog laysJoin_ren := {
  mixed := by kernel_rfl
  f156 := Tryz.func81.trans (congrArg some (by kernel_rfl))
  f165 := Tryz.func97.trans (congrArg some (by kernel_rfl))
  f166 := Tryz.func98.trans (congrArg some (by kernel_rfl))
  f169 := Tryz.func99.trans (congrArg some (by kernel_rfl))
  f240 := Tryz.func110.trans (congrArg some (by kernel_rfl))
  f241 := Tryz.func111.trans (congrArg some (by kernel_rfl))
  f276 := Tryz.func116.trans (congrArg some (by kernel_rfl))
  f277 := Tryz.func117.trans (congrArg some (by kernel_rfl))
  t0 := Tryz.underlying0
  a0 := Tryz.isAgg0
  z0 := Tryz.sizeOf0
  v0 := Tryz.zeroValue0
  t3 := Tryz.underlying3
  a3 := Tryz.isAgg3
  z3 := Tryz.sizeOf3
  v3 := Tryz.zeroValue3
  t4 := Tryz.underlying4
  a4 := Tryz.isAgg4
  z4 := Tryz.sizeOf4
  v4 := Tryz.zeroValue4
  t9 := Tryz.underlying9
  a9 := Tryz.isAgg9
  z9 := Tryz.sizeOf9
  v9 := Tryz.zeroValue9
  t20 := Tryz.underlying20
  a20 := Tryz.isAgg20
  z20 := Tryz.sizeOf20
  v20 := Tryz.zeroValue20
  t31 := Tryz.underlying86
  a31 := Tryz.isAgg86
  z31 := Tryz.sizeOf86
  v31 := Tryz.zeroValue86
  t37 := Tryz.underlying72
  a37 := Tryz.isAgg72
  z37 := Tryz.sizeOf72
  v37 := Tryz.zeroValue72
  t70 := Tryz.underlying104
  a70 := Tryz.isAgg104
  z70 := Tryz.sizeOf104
  v70 := Tryz.zeroValue104
  t72 := Tryz.underlying106
  a72 := Tryz.isAgg106
  z72 := Tryz.sizeOf106
  v72 := Tryz.zeroValue106
  t75 := Tryz.underlying109
  a75 := Tryz.isAgg109
  z75 := Tryz.sizeOf109
  v75 := Tryz.zeroValue109
  t76 := Tryz.underlying110
  a76 := Tryz.isAgg110
  z76 := Tryz.sizeOf110
  v76 := Tryz.zeroValue110
  t127 := Tryz.underlying120
  a127 := Tryz.isAgg120
  z127 := Tryz.sizeOf120
  v127 := Tryz.zeroValue120
  t164 := Tryz.underlying122
  a164 := Tryz.isAgg122
  z164 := Tryz.sizeOf122
  v164 := Tryz.zeroValue122 }
theorem joinX : Go.Proofs.Builder.Extra Tryz.prog laysJoin_ren := {
  sizeBuilder := by kernel_rfl
  liesBuilder := by kernel_rfl
  t5 := Tryz.underlying5
  a5 := Tryz.isAgg5
  z5 := Tryz.sizeOf5
  v5 := Tryz.zeroValue5
  infoByte := by kernel_rfl
  cellsByte := by kernel_rfl
  sizeByte := by kernel_rfl
  neB5 := by decide }
end
section
open Go.ChangeShapes Go.WideShapes Go.ChangeAt Go.RowKit
set_option linter.unusedVariables false
set_option linter.unusedSimpArgs false
set_option maxRecDepth 20000
attribute [local irreducible] wpList

/-- what the laid tables give: the powers of ten, and the one cell that base 16 reads -/
def LaidW (w : World) : Prop := Lib.TabIs Tryz.prog w "internal/strconv.uint64pow10" .u64 Lib.pow10Tab ∧ w.cell? ⟨3, 15, none⟩ = some (.int .u8 4)
theorem LaidW.below {w W : World} (h : LaidW w) (hb : Below w.heap.size w W) : LaidW W :=
  ⟨Lib.tabBelow_of_tabIs h.1 W hb, by rw [hb.cell (p := ⟨3, 15, none⟩) (cell_lt1 h.2)]; exact h.2⟩
section
variable {w : World}
theorem itoa_any (h : LaidW w) {n : Nat} (hn : n ≤ 65535) : Gives Tryz.prog 29 #[.int .i64 (n : Int)] w (.string (str (Pr.digs 10 n))) := by
  refine Gives.of ((Any.strconv_Itoa laysItoa (n : Int) (by omega) (by omega) w h.1).mono ?_)
  rintro e w' ⟨rfl, k, os, rfl⟩
  exact ⟨by rw [Pr.digs_itoa]; rfl, Lib.below_grow _ _ (Nat.le_refl _) _ _⟩
theorem tz64 (h : LaidW w) : Gives Tryz.prog 115 #[.int .u64 16] w (.int .i64 4) := by
  refine Gives.of ?_
  have hc := h.2
  clear h
  have hx : bits BinOp.and IntKind.u64 16 (IntKind.u64.wrap (-16)) = 16 := by decide +kernel
  have hy : IntKind.u64.wrap (16 * 285870213051353865) = 4573923408821661840 := by decide +kernel
  go_enter Tryz.func115, Tryz.ntmps115
  go_wp2
  go_ret
  exact ⟨rfl, by simp⟩
theorem tz16 (h : LaidW w) : Gives Tryz.prog 109 #[.int .u64 16] w (.int .i64 4) := by
  refine Gives.of ?_
  have F := Lib.hid (fun W (hb : Below w.heap.size w W) => tz64 (h.below hb))
  clear h
  have hH := Hp.refl w
  go_enter Tryz.func109, Tryz.ntmps109
  go_wp2_with (first | ((first | (refine gL rfl ?_; first | (refine hL1 tab_ok 0 rfl ?_ rfl hH rfl rfl rfl rfl ?_; (focus (first | exact wN rfl | exact rfl))) | (refine hLR tab_ok 0 rfl ?_ rfl hH rfl rfl rfl rfl ?_; (focus (first | exact wN rfl | exact rfl))) | (refine hL1i tab_ok 0 rfl ?_ rfl hH rfl rfl rfl rfl ?_; (focus (first | exact wN rfl | exact rfl)); refine ⟨?_, ?_, ?_⟩; rotate_left; (focus assumption))) | (refine gS rfl ?_; first | (refine hS1 tab_ok 0 rfl ?_ rfl rfl hH rfl rfl rfl rfl rfl ?_; (focus (first | exact wN rfl | exact rfl))) | (refine hSR tab_ok 0 rfl ?_ rfl rfl hH rfl rfl rfl rfl rfl ?_ ?_; (focus (first | exact wN rfl | exact rfl)); (focus (repeat (first | exact trivial | assumption | exact OkA.z (by kernel_rfl) (by kernel_rfl) | refine ⟨rfl, ?_⟩ | refine ⟨?_, ?_⟩))))) | (refine hAl tab_ok rfl ?_ hH rfl ?_; (focus (first | exact wN rfl | exact rfl))) | (refine hBx1 rfl ?_ rfl hH ?_; (focus (first | exact wN rfl | exact rfl))) | (refine hBx rfl ?_ rfl hH ?_ ?_; (focus (first | exact wN rfl | exact rfl)); (focus (repeat (first | exact trivial | assumption | exact OkA.z (by kernel_rfl) (by kernel_rfl) | refine ⟨rfl, ?_⟩ | refine ⟨?_, ?_⟩)))) | (refine hBd tab_ok rfl ?_ rfl rfl rfl hH ?_; (focus (first | exact wN rfl | exact rfl)); refine ⟨?_, ?_, ?_⟩; rotate_left; (focus (repeat (first | exact BR.nil | refine BR.one rfl rfl rfl ?_ | (refine BR.row rfl rfl rfl rfl ?_ ?_; (focus (repeat (first | exact trivial | assumption | exact OkA.z (by kernel_rfl) (by kernel_rfl) | refine ⟨rfl, ?_⟩ | refine ⟨?_, ?_⟩)))))))) | ((with_reducible refine callH hH ?_); refine ⟨?_, ?_, ?_⟩; rotate_left; (focus (first | (exact F.out _ hH.below))))); clear hH; (first | intro W g hH | intro W hH); ((try simp only [Act.put, List.setIfInBounds_toArray, List.set_cons_succ, List.set_cons_zero]))))
  go_ret
  exact ⟨rfl, hH.below⟩
theorem pow2_16 : Gives Tryz.prog 108 #[.int .i64 16] w (.bool true) := by
  refine Gives.of ?_
  have hH := Hp.refl w
  go_enter Tryz.func108, Tryz.ntmps108
  go_wp2_with (first | ((first | (refine gL rfl ?_; first | (refine hL1 tab_ok 0 rfl ?_ rfl hH rfl rfl rfl rfl ?_; (focus (first | exact wN rfl | exact rfl))) | (refine hLR tab_ok 0 rfl ?_ rfl hH rfl rfl rfl rfl ?_; (focus (first | exact wN rfl | exact rfl))) | (refine hL1i tab_ok 0 rfl ?_ rfl hH rfl rfl rfl rfl ?_; (focus (first | exact wN rfl | exact rfl)); refine ⟨?_, ?_, ?_⟩; rotate_left; (focus assumption))) | (refine gS rfl ?_; first | (refine hS1 tab_ok 0 rfl ?_ rfl rfl hH rfl rfl rfl rfl rfl ?_; (focus (first | exact wN rfl | exact rfl))) | (refine hSR tab_ok 0 rfl ?_ rfl rfl hH rfl rfl rfl rfl rfl ?_ ?_; (focus (first | exact wN rfl | exact rfl)); (focus (repeat (first | exact trivial | assumption | exact OkA.z (by kernel_rfl) (by kernel_rfl) | refine ⟨rfl, ?_⟩ | refine ⟨?_, ?_⟩))))) | (refine hAl tab_ok rfl ?_ hH rfl ?_; (focus (first | exact wN rfl | exact rfl))) | (refine hBx1 rfl ?_ rfl hH ?_; (focus (first | exact wN rfl | exact rfl))) | (refine hBx rfl ?_ rfl hH ?_ ?_; (focus (first | exact wN rfl | exact rfl)); (focus (repeat (first | exact trivial | assumption | exact OkA.z (by kernel_rfl) (by kernel_rfl) | refine ⟨rfl, ?_⟩ | refine ⟨?_, ?_⟩)))) | (refine hBd tab_ok rfl ?_ rfl rfl rfl hH ?_; (focus (first | exact wN rfl | exact rfl)); refine ⟨?_, ?_, ?_⟩; rotate_left; (focus (repeat (first | exact BR.nil | refine BR.one rfl rfl rfl ?_ | (refine BR.row rfl rfl rfl rfl ?_ ?_; (focus (repeat (first | exact trivial | assumption | exact OkA.z (by kernel_rfl) (by kernel_rfl) | refine ⟨rfl, ?_⟩ | refine ⟨?_, ?_⟩))))))))); clear hH; (first | intro W g hH | intro W hH); ((try simp only [Act.put, List.setIfInBounds_toArray, List.set_cons_succ, List.set_cons_zero]))))
  go_ret
  exact ⟨rfl, hH.below⟩
end
section
variable {P : Program} {T : Tab} {B : Nat} {w0 W : World} {H : HB} {g : Nat} {t ty : TypeId} {b : Bool} {S S2 : List Seg} {e : TyE}
variable {ops : Array Oper} {rest : List Oper} {op : Oper} {a : Act} {Q : Exit → Act → World → Prop} {x s y : Operand} {n c m p o : Nat} {A : List Value} {v : Value}
/-- a new variable of a type that is not in the table -/
theorem hAlZ (n : Nat) (hz : zeroOk P ty = true) (hn : (zeroL P ty).length = n) (ho1 : zoneOk P ty = true) (ho : op.op = .alloc ty) (hw : Region.wanted op (yielded ops a.tmps) = true) (hH : Hp B w0 W H)
    (h : ∀ W' g, OkA (zeroL P ty) n → Hp B w0 W' ((g, ty, true, [.many (zeroL P ty) n]) :: H) → wpList P ops Q rest (a.put op.dst (.pointer (some ⟨g, 0, none⟩))) W') : wpList P ops Q (op :: rest) a W := by
  unfold wpList
  rw [if_pos hw]
  refine Or.inl ?_
  have ok := OkA.z hn ho1
  unfold Oper.wp execOp
  simp only [ho, Sem.run_bind, run_alloc0 (W := W) hz, Result.andThen_ok, Sem.run_pure]
  have := hH.alloc ty (S := [.many (zeroL P ty) n]) ⟨ok, trivial⟩
  rw [fls1] at this
  exact h _ _ ok this
/-- a store into one cell of a block, and what it holds then -/
theorem hSx1V (hT : TabOk P T) (i : Nat) (ho : op.op = .store ty x y) (hw : Region.wanted op (yielded ops a.tmps) = true) (hx : a.eval x = .pointer (some ⟨g, o, none⟩)) (hy : one1 (a.eval y) = some v) (hH : Hp B w0 W H) (hi : nthH H i = some (g, t, true, .many A p :: S))
    (hty : findT ty T = some e) (hr : e.size = 1) (h : o < p ∧ ∀ W' H', OkA (A.set o v) p → updH H i (.many (A.set o v) p :: S) = some H' → Hp B w0 W' H' → wpList P ops Q rest (a.put op.dst undef) W') : wpList P ops Q (op :: rest) a W := by
  obtain ⟨hk, h⟩ := h
  obtain ⟨hy, h1⟩ := one1_ok hy
  obtain ⟨hr1, hS, _⟩ := hH.rows.mem hi
  have hA : OkA A p := hS.1
  have hlt : o < A.length := by rw [hA.1]; exact hk
  have hlt2 : o < (fls (.many A p :: S)).length := by simp [fls]; omega
  obtain ⟨H', hu⟩ := upd_ex hi (.many (A.set o v) p :: S)
  have hok : OkA (A.set o v) p := ⟨by rw [List.length_set]; exact hA.1, fun z hz => by
    rcases List.mem_or_eq_of_mem_set hz with h | rfl
    · exact hA.2 z h
    · exact h1⟩
  have hl := run_store1 (P := P) (W := W) (by rw [(hT.find hty).size, hr]) (g := g) (o := o) h1 (by rw [hr1.cell, List.getElem?_toArray, List.getElem?_eq_getElem hlt2]; rfl) (hr1.frozen o)
  unfold wpList
  rw [if_pos hw]
  refine Or.inl ?_
  unfold Oper.wp execOp
  simp only [ho, hx, hy, Sem.run_bind, hl, Result.andThen_ok, Sem.run_pure]
  refine h _ H' hok hu (hH.upd hi hu ⟨hok, hS.2⟩ ?_ (gb_set (World.grownBy.refl W _) o v))
  have := hr1.set o v
  rw [List.setIfInBounds_toArray] at this
  rwa [show (fls (.many A p :: S)).set o v = fls (.many (A.set o v) p :: S) by simp only [fls]; rw [List.set_append_left _ _ hlt]] at this
/-- the text of the bytes from a place on -/
theorem hStrO (i : Nat) {src dst el : TypeId} {len cap : Nat} {pre : List Value} {l : List UInt8} (hs : P.underlying src = some (.slice el)) (he : P.underlying el = some (.int .u8)) (hd : P.underlying dst = some .string) (ho : op.op = .convert src dst x) (hw : Region.wanted op (yielded ops a.tmps) = true)
    (hx : a.eval x = .slice (some ⟨g, o, none⟩) len cap) (hH : Hp B w0 W H) (hi : nthH H i = some (g, t, b, S)) (hS : fls S = pre ++ l.map byteV) (h0 : o = pre.length) (hl : l.length = len)
    (h : ∀ W', Hp B w0 W' H → wpList P ops Q rest (a.put op.dst (.string (str l))) W') : wpList P ops Q (op :: rest) a W := by
  unfold wpList
  rw [if_pos hw]
  refine Or.inl ?_
  have hr := (hH.rows.mem hi).1
  have hl2 : (convert src dst (.slice (some ⟨g, o, none⟩) len cap)).run P W = .ok (.string (str l)) W := by
    subst h0
    refine run_str_of hs he hd hl (fun k b hb => ?_)
    rw [hr.cell, List.getElem?_toArray, hS, List.getElem?_append_right (by omega), Nat.add_sub_cancel_left, List.getElem?_map, hb]
    rfl
  unfold Oper.wp execOp
  simp only [ho, hx, Sem.run_bind, hl2, Result.andThen_ok, Sem.run_pure]
  exact h W hH
theorem set_mid (Q : List Value) (z v : Value) (T : List Value) : (Q ++ z :: T).set Q.length v = Q ++ v :: T := by
  rw [List.set_append_right _ _ (Nat.le_refl _), Nat.sub_self]; rfl
end
section
variable {w : World}
theorem and15 {m : Nat} (hm : m < 18446744073709551616) : bits BinOp.and IntKind.u64 (m : Int) 15 = (m : Int) % 16 := by
  rw [show (15 : Int) = ((2 ^ 4 - 1 : Nat) : Int) from rfl, u64_and_nat _ _ (by omega) (by omega), Nat.and_two_pow_sub_one_eq_mod]; rfl
theorem idx36 {d : Nat} (hd : d < 16) (x : Int) (hx : x = (d : Int)) (W : World) : (Instr.index 9 (.string ⟨#[48, 49, 50, 51, 52, 53, 54, 55, 56, 57, 97, 98, 99, 100, 101, 102, 103, 104, 105, 106, 107, 108, 109, 110, 111, 112, 113, 114, 115, 116, 117, 118, 119, 120, 121, 122]⟩) (.int .u64 x)).run Tryz.prog W = .ok (.int .u8 ((Pr.sgn d).toNat : Int)) W := by
  subst hx
  have hc : d = 0 ∨ d = 1 ∨ d = 2 ∨ d = 3 ∨ d = 4 ∨ d = 5 ∨ d = 6 ∨ d = 7 ∨ d = 8 ∨ d = 9 ∨ d = 10 ∨ d = 11 ∨ d = 12 ∨ d = 13 ∨ d = 14 ∨ d = 15 := by omega
  rcases hc with rfl | rfl | rfl | rfl | rfl | rfl | rfl | rfl | rfl | rfl | rfl | rfl | rfl | rfl | rfl | rfl <;> rfl
set_option maxHeartbeats 1000000 in
theorem fmt16 (h : LaidW w) {n : Nat} (hn : n ≤ 65535) : Gives Tryz.prog 96 #[.slice none 0 0, .int .u64 (n : Int), .int .i64 16, .bool false, .bool false] w (.tuple #[.slice none 0 0, .string (str (Pr.digs 16 n))]) := by
  refine Gives.of ?_
  have F := Lib.hid (fun W (hb : Below w.heap.size w W) => tz16 (h.below hb))
  have F2 := Lib.hid (fun W => pow2_16 (w := W))
  clear h
  obtain ⟨res, hres⟩ : ∃ r, Pr.digs 16 n = r := ⟨_, rfl⟩
  rw [hres]
  have HR := Lib.hid hres
  clear hres
  have hH := Hp.refl w
  go_enter Tryz.func96, Tryz.ntmps96
  go_wp2_with (first | (((refine hAlZ 65 (by kernel_rfl) (by kernel_rfl) (by kernel_rfl) rfl ?_ hH ?_); (focus (first | exact wN rfl | exact rfl)); clear hH; intro W g oZ hH; ((try simp only [Act.put, List.setIfInBounds_toArray, List.set_cons_succ, List.set_cons_zero])))) | ((first | (refine gL rfl ?_; first | (refine hL1 tab_ok 0 rfl ?_ rfl hH rfl rfl rfl rfl ?_; (focus (first | exact wN rfl | exact rfl))) | (refine hLR tab_ok 0 rfl ?_ rfl hH rfl rfl rfl rfl ?_; (focus (first | exact wN rfl | exact rfl))) | (refine hL1i tab_ok 0 rfl ?_ rfl hH rfl rfl rfl rfl ?_; (focus (first | exact wN rfl | exact rfl)); refine ⟨?_, ?_, ?_⟩; rotate_left; (focus assumption))) | (refine gS rfl ?_; first | (refine hS1 tab_ok 0 rfl ?_ rfl rfl hH rfl rfl rfl rfl rfl ?_; (focus (first | exact wN rfl | exact rfl))) | (refine hSR tab_ok 0 rfl ?_ rfl rfl hH rfl rfl rfl rfl rfl ?_ ?_; (focus (first | exact wN rfl | exact rfl)); (focus (repeat (first | exact trivial | assumption | exact OkA.z (by kernel_rfl) (by kernel_rfl) | refine ⟨rfl, ?_⟩ | refine ⟨?_, ?_⟩))))) | (refine hAl tab_ok rfl ?_ hH rfl ?_; (focus (first | exact wN rfl | exact rfl))) | (refine hBx1 rfl ?_ rfl hH ?_; (focus (first | exact wN rfl | exact rfl))) | (refine hBx rfl ?_ rfl hH ?_ ?_; (focus (first | exact wN rfl | exact rfl)); (focus (repeat (first | exact trivial | assumption | exact OkA.z (by kernel_rfl) (by kernel_rfl) | refine ⟨rfl, ?_⟩ | refine ⟨?_, ?_⟩)))) | (refine hBd tab_ok rfl ?_ rfl rfl rfl hH ?_; (focus (first | exact wN rfl | exact rfl)); refine ⟨?_, ?_, ?_⟩; rotate_left; (focus (repeat (first | exact BR.nil | refine BR.one rfl rfl rfl ?_ | (refine BR.row rfl rfl rfl rfl ?_ ?_; (focus (repeat (first | exact trivial | assumption | exact OkA.z (by kernel_rfl) (by kernel_rfl) | refine ⟨rfl, ?_⟩ | refine ⟨?_, ?_⟩)))))))) | ((with_reducible refine callH hH ?_); refine ⟨?_, ?_, ?_⟩; rotate_left; (focus (first | (exact F2.out _) | (exact F.out _ hH.below))))); clear hH; (first | intro W g hH | intro W hH); ((try simp only [Act.put, List.setIfInBounds_toArray, List.set_cons_succ, List.set_cons_zero]))))
  have z65 : (zeroL Tryz.prog 118).length = 65 := by kernel_rfl
  go_loopw [1, 13] (fun u i wr => ∃ (m e : Nat) (S : List UInt8) (P0 : List Value), u = .int .u64 (m : Int) ∧ i = .int .i64 (P0.length : Int) ∧ P0.length + S.length = 65 ∧ S.length + e = 4 ∧ 1 ≤ e ∧ m < 16 ^ e ∧ Pr.digs 16 m ++ S = res ∧ OkA (P0 ++ S.map byteV) 65 ∧ Hp w.heap.size w wr [(g, 118, true, [.many (P0 ++ S.map byteV) 65])]) (fun u _ _ => (intOf u).toNat)
  case atStart => exact ⟨n, 4, [], zeroL Tryz.prog 118, rfl, by rw [z65]; rfl, by rw [z65]; rfl, rfl, by omega, by omega, by rw [HR.out, List.append_nil], by rw [List.map_nil, List.append_nil]; exact oZ, by rw [List.map_nil, List.append_nil]; exact hH⟩
  case round =>
    clear hH oZ z65
    obtain ⟨m, e, S, P0, rfl, rfl, hPS, hSe, he, hm, hD, oA, hH⟩ := hrel
    obtain ⟨Q, z, rfl⟩ : ∃ Q z, P0 = Q ++ [z] := by
      rcases List.eq_nil_or_concat P0 with rfl | ⟨Q, z, rfl⟩
      · simp at hPS; omega
      · exact ⟨Q, z, List.concat_eq_append⟩
    have hidx := idx36 (Nat.mod_lt m (show 0 < 16 by omega)) ((m : Int) % 16) (by omega)
    have hm64 : m < 18446744073709551616 := Nat.lt_of_lt_of_le hm (Nat.le_trans (Nat.pow_le_pow_right (by omega) (show e ≤ 4 by omega)) (by decide))
    have ha := and15 hm64
    have hset := Lib.hid (fun v => set_mid Q z v (S.map byteV))
    have hQ := Lib.hid (show Q.length + 1 + S.length = 65 by simpa using hPS)
    have hm2 := Lib.hid hm
    rw [List.append_assoc, List.singleton_append] at oA hH
    simp only [List.length_append, List.length_cons, List.length_nil] at hPS ⊢
    have hQ64 : Q.length < 65 := by omega
    have HD := Lib.hid hD
    clear hD hm
    by_cases hge : 16 ≤ m
    · have dm : decide (16 ≤ m) = true := decide_eq_true hge
      go_wp2_with (first | ((refine gS rfl ?_; refine hSx1V tab_ok 0 rfl ?_ rfl rfl hH rfl rfl rfl ?_; (focus (first | exact wN rfl | exact rfl)); refine ⟨?_, ?_⟩; (focus omega); intro W H' oA' hu h; (obtain rfl := Option.some.inj hu); clear hu hH; have hH := h; clear h; ((try simp only [Act.put, List.setIfInBounds_toArray, List.set_cons_succ, List.set_cons_zero])))) | ((first | (refine gL rfl ?_; first | (refine hL1 tab_ok 0 rfl ?_ rfl hH rfl rfl rfl rfl ?_; (focus (first | exact wN rfl | exact rfl))) | (refine hLR tab_ok 0 rfl ?_ rfl hH rfl rfl rfl rfl ?_; (focus (first | exact wN rfl | exact rfl))) | (refine hL1i tab_ok 0 rfl ?_ rfl hH rfl rfl rfl rfl ?_; (focus (first | exact wN rfl | exact rfl)); refine ⟨?_, ?_, ?_⟩; rotate_left; (focus assumption))) | (refine gS rfl ?_; first | (refine hS1 tab_ok 0 rfl ?_ rfl rfl hH rfl rfl rfl rfl rfl ?_; (focus (first | exact wN rfl | exact rfl))) | (refine hSR tab_ok 0 rfl ?_ rfl rfl hH rfl rfl rfl rfl rfl ?_ ?_; (focus (first | exact wN rfl | exact rfl)); (focus (repeat (first | exact trivial | assumption | exact OkA.z (by kernel_rfl) (by kernel_rfl) | refine ⟨rfl, ?_⟩ | refine ⟨?_, ?_⟩))))) | (refine hAl tab_ok rfl ?_ hH rfl ?_; (focus (first | exact wN rfl | exact rfl))) | (refine hBx1 rfl ?_ rfl hH ?_; (focus (first | exact wN rfl | exact rfl))) | (refine hBx rfl ?_ rfl hH ?_ ?_; (focus (first | exact wN rfl | exact rfl)); (focus (repeat (first | exact trivial | assumption | exact OkA.z (by kernel_rfl) (by kernel_rfl) | refine ⟨rfl, ?_⟩ | refine ⟨?_, ?_⟩)))) | (refine hBd tab_ok rfl ?_ rfl rfl rfl hH ?_; (focus (first | exact wN rfl | exact rfl)); refine ⟨?_, ?_, ?_⟩; rotate_left; (focus (repeat (first | exact BR.nil | refine BR.one rfl rfl rfl ?_ | (refine BR.row rfl rfl rfl rfl ?_ ?_; (focus (repeat (first | exact trivial | assumption | exact OkA.z (by kernel_rfl) (by kernel_rfl) | refine ⟨rfl, ?_⟩ | refine ⟨?_, ?_⟩))))))))); clear hH; (first | intro W g hH | intro W hH); ((try simp only [Act.put, List.setIfInBounds_toArray, List.set_cons_succ, List.set_cons_zero]))))
      have he2 : 2 ≤ e := by
        rcases Nat.lt_or_ge e 2 with h | h
        · obtain rfl : e = 1 := by omega
          have := hm2.out; simp at this; omega
        · exact h
      obtain ⟨e', rfl⟩ : ∃ k, e = k + 1 := ⟨e - 1, by omega⟩
      have hv : ∀ d, (Value.int .u8 ((Pr.sgn d).toNat : Int)) = byteV (Pr.sgn d) := fun d => rfl
      rw [hv, hset.out] at hH oA'
      have hq := hQ.out
      exact ⟨⟨m / 16, e', Pr.sgn (m % 16) :: S, Q, by simp, rfl, by simp only [List.length_cons]; omega, by simp only [List.length_cons]; omega, by omega, Nat.div_lt_of_lt_mul (by have := hm2.out; rw [Nat.pow_succ] at this; omega), by rw [← HD.out, Pr.digs_big (u := m) (by omega) (by omega)]; simp, oA', hH⟩, by simp [intOf]; omega⟩
    · have dm : decide (16 ≤ m) = false := decide_eq_false hge
      have hidx2 := idx36 (d := m) (by omega) (m : Int) rfl
      have hv : (Value.int .u8 ((Pr.sgn m).toNat : Int)) = byteV (Pr.sgn m) := rfl
      have hal : Tryz.prog.arrayLen 118 = 65 := by kernel_rfl
      have hel : Tryz.prog.elem 118 = 5 := by kernel_rfl
      have hq1 := hQ.out
      have hsl : ∀ W, (Instr.sliceAt 118 (.pointer (some ⟨g, 0, none⟩)) (some (.int .i64 (Q.length : Int))) none none).run Tryz.prog W = .ok (.slice (some ⟨g, Q.length, none⟩) (S.length + 1) (S.length + 1)) W := fun W => by
        rw [run_sliceAt_array_l W 118 ⟨g, 0, none⟩ (by rw [hal, hel]; exact Tryz.underlying118) .i64 (Q.length : Int) (by omega) (by rw [hal]; omega), hal, hel]
        go_simp
        omega
      have HDE := Lib.hid (show str (Pr.sgn m :: S) = str res by rw [← HD.out, Pr.digs_small (by omega)]; rfl)
      clear hal hel hq1 hidx
      go_wp2_with (first | ((refine gS rfl ?_; refine hSx1V tab_ok 0 rfl ?_ rfl rfl hH rfl rfl rfl ?_; (focus (first | exact wN rfl | exact rfl)); refine ⟨?_, ?_⟩; (focus omega); intro W H' oA' hu h; (obtain rfl := Option.some.inj hu); clear hu hH; have hH := h; clear h; (rw [hv, hset.out] at hH oA'); ((try simp only [Act.put, List.setIfInBounds_toArray, List.set_cons_succ, List.set_cons_zero])))) | (((refine hStrO 0 (pre := Q) (l := Pr.sgn m :: S) Tryz.underlying72 Tryz.underlying5 Tryz.underlying9 rfl ?_ rfl hH rfl ?_ rfl rfl ?_); (focus (first | exact wN rfl | exact rfl)); (focus (rw [fls1]; rfl)); (clear hH; (first | intro W g hH | intro W hH); (try simp only [Act.put, List.setIfInBounds_toArray, List.set_cons_succ, List.set_cons_zero])))) | ((first | (refine gL rfl ?_; first | (refine hL1 tab_ok 0 rfl ?_ rfl hH rfl rfl rfl rfl ?_; (focus (first | exact wN rfl | exact rfl))) | (refine hLR tab_ok 0 rfl ?_ rfl hH rfl rfl rfl rfl ?_; (focus (first | exact wN rfl | exact rfl))) | (refine hL1i tab_ok 0 rfl ?_ rfl hH rfl rfl rfl rfl ?_; (focus (first | exact wN rfl | exact rfl)); refine ⟨?_, ?_, ?_⟩; rotate_left; (focus assumption))) | (refine gS rfl ?_; first | (refine hS1 tab_ok 0 rfl ?_ rfl rfl hH rfl rfl rfl rfl rfl ?_; (focus (first | exact wN rfl | exact rfl))) | (refine hSR tab_ok 0 rfl ?_ rfl rfl hH rfl rfl rfl rfl rfl ?_ ?_; (focus (first | exact wN rfl | exact rfl)); (focus (repeat (first | exact trivial | assumption | exact OkA.z (by kernel_rfl) (by kernel_rfl) | refine ⟨rfl, ?_⟩ | refine ⟨?_, ?_⟩))))) | (refine hAl tab_ok rfl ?_ hH rfl ?_; (focus (first | exact wN rfl | exact rfl))) | (refine hBx1 rfl ?_ rfl hH ?_; (focus (first | exact wN rfl | exact rfl))) | (refine hBx rfl ?_ rfl hH ?_ ?_; (focus (first | exact wN rfl | exact rfl)); (focus (repeat (first | exact trivial | assumption | exact OkA.z (by kernel_rfl) (by kernel_rfl) | refine ⟨rfl, ?_⟩ | refine ⟨?_, ?_⟩)))) | (refine hBd tab_ok rfl ?_ rfl rfl rfl hH ?_; (focus (first | exact wN rfl | exact rfl)); refine ⟨?_, ?_, ?_⟩; rotate_left; (focus (repeat (first | exact BR.nil | refine BR.one rfl rfl rfl ?_ | (refine BR.row rfl rfl rfl rfl ?_ ?_; (focus (repeat (first | exact trivial | assumption | exact OkA.z (by kernel_rfl) (by kernel_rfl) | refine ⟨rfl, ?_⟩ | refine ⟨?_, ?_⟩))))))))); clear hH; (first | intro W g hH | intro W hH); ((try simp only [Act.put, List.setIfInBounds_toArray, List.set_cons_succ, List.set_cons_zero]))))
      go_ret2
      exact ⟨congrArg (fun x => Ending.returned (Value.tuple #[.slice none 0 0, .string x])) HDE.out, hH.below⟩
theorem fmtU1 (h : LaidW w) {n : Nat} (hn : n ≤ 65535) : Gives Tryz.prog 112 #[.int .u64 (n : Int), .int .i64 16] w (.string (str (Pr.digs 16 n))) := by
  refine Gives.of ?_
  have F := Lib.hid (fun W (hb : Below w.heap.size w W) => fmt16 (h.below hb) hn)
  clear h
  generalize Pr.digs 16 n = r at *
  have hH := Hp.refl w
  go_enter Tryz.func112, Tryz.ntmps112
  go_wp2_with (first | ((first | (refine gL rfl ?_; first | (refine hL1 tab_ok 0 rfl ?_ rfl hH rfl rfl rfl rfl ?_; (focus (first | exact wN rfl | exact rfl))) | (refine hLR tab_ok 0 rfl ?_ rfl hH rfl rfl rfl rfl ?_; (focus (first | exact wN rfl | exact rfl))) | (refine hL1i tab_ok 0 rfl ?_ rfl hH rfl rfl rfl rfl ?_; (focus (first | exact wN rfl | exact rfl)); refine ⟨?_, ?_, ?_⟩; rotate_left; (focus assumption))) | (refine gS rfl ?_; first | (refine hS1 tab_ok 0 rfl ?_ rfl rfl hH rfl rfl rfl rfl rfl ?_; (focus (first | exact wN rfl | exact rfl))) | (refine hSR tab_ok 0 rfl ?_ rfl rfl hH rfl rfl rfl rfl rfl ?_ ?_; (focus (first | exact wN rfl | exact rfl)); (focus (repeat (first | exact trivial | assumption | exact OkA.z (by kernel_rfl) (by kernel_rfl) | refine ⟨rfl, ?_⟩ | refine ⟨?_, ?_⟩))))) | (refine hAl tab_ok rfl ?_ hH rfl ?_; (focus (first | exact wN rfl | exact rfl))) | (refine hBx1 rfl ?_ rfl hH ?_; (focus (first | exact wN rfl | exact rfl))) | (refine hBx rfl ?_ rfl hH ?_ ?_; (focus (first | exact wN rfl | exact rfl)); (focus (repeat (first | exact trivial | assumption | exact OkA.z (by kernel_rfl) (by kernel_rfl) | refine ⟨rfl, ?_⟩ | refine ⟨?_, ?_⟩)))) | (refine hBd tab_ok rfl ?_ rfl rfl rfl hH ?_; (focus (first | exact wN rfl | exact rfl)); refine ⟨?_, ?_, ?_⟩; rotate_left; (focus (repeat (first | exact BR.nil | refine BR.one rfl rfl rfl ?_ | (refine BR.row rfl rfl rfl rfl ?_ ?_; (focus (repeat (first | exact trivial | assumption | exact OkA.z (by kernel_rfl) (by kernel_rfl) | refine ⟨rfl, ?_⟩ | refine ⟨?_, ?_⟩)))))))) | ((with_reducible refine callH hH ?_); refine ⟨?_, ?_, ?_⟩; rotate_left; (focus (first | (exact F.out _ hH.below))))); clear hH; (first | intro W g hH | intro W hH); ((try simp only [Act.put, List.setIfInBounds_toArray, List.set_cons_succ, List.set_cons_zero]))))
  go_ret
  exact ⟨rfl, hH.below⟩
theorem fmtU (h : LaidW w) {n : Nat} (hn : n ≤ 65535) : Gives Tryz.prog 101 #[.int .u64 (n : Int), .int .i64 16] w (.string (str (Pr.digs 16 n))) := by
  refine Gives.of ?_
  have F := Lib.hid (fun W (hb : Below w.heap.size w W) => fmtU1 (h.below hb) hn)
  clear h
  generalize Pr.digs 16 n = r at *
  have hH := Hp.refl w
  go_enter Tryz.func101, Tryz.ntmps101
  go_wp2_with (first | ((first | (refine gL rfl ?_; first | (refine hL1 tab_ok 0 rfl ?_ rfl hH rfl rfl rfl rfl ?_; (focus (first | exact wN rfl | exact rfl))) | (refine hLR tab_ok 0 rfl ?_ rfl hH rfl rfl rfl rfl ?_; (focus (first | exact wN rfl | exact rfl))) | (refine hL1i tab_ok 0 rfl ?_ rfl hH rfl rfl rfl rfl ?_; (focus (first | exact wN rfl | exact rfl)); refine ⟨?_, ?_, ?_⟩; rotate_left; (focus assumption))) | (refine gS rfl ?_; first | (refine hS1 tab_ok 0 rfl ?_ rfl rfl hH rfl rfl rfl rfl rfl ?_; (focus (first | exact wN rfl | exact rfl))) | (refine hSR tab_ok 0 rfl ?_ rfl rfl hH rfl rfl rfl rfl rfl ?_ ?_; (focus (first | exact wN rfl | exact rfl)); (focus (repeat (first | exact trivial | assumption | exact OkA.z (by kernel_rfl) (by kernel_rfl) | refine ⟨rfl, ?_⟩ | refine ⟨?_, ?_⟩))))) | (refine hAl tab_ok rfl ?_ hH rfl ?_; (focus (first | exact wN rfl | exact rfl))) | (refine hBx1 rfl ?_ rfl hH ?_; (focus (first | exact wN rfl | exact rfl))) | (refine hBx rfl ?_ rfl hH ?_ ?_; (focus (first | exact wN rfl | exact rfl)); (focus (repeat (first | exact trivial | assumption | exact OkA.z (by kernel_rfl) (by kernel_rfl) | refine ⟨rfl, ?_⟩ | refine ⟨?_, ?_⟩)))) | (refine hBd tab_ok rfl ?_ rfl rfl rfl hH ?_; (focus (first | exact wN rfl | exact rfl)); refine ⟨?_, ?_, ?_⟩; rotate_left; (focus (repeat (first | exact BR.nil | refine BR.one rfl rfl rfl ?_ | (refine BR.row rfl rfl rfl rfl ?_ ?_; (focus (repeat (first | exact trivial | assumption | exact OkA.z (by kernel_rfl) (by kernel_rfl) | refine ⟨rfl, ?_⟩ | refine ⟨?_, ?_⟩)))))))) | ((with_reducible refine callH hH ?_); refine ⟨?_, ?_, ?_⟩; rotate_left; (focus (first | (exact F.out _ hH.below))))); clear hH; (first | intro W g hH | intro W hH); ((try simp only [Act.put, List.setIfInBounds_toArray, List.set_cons_succ, List.set_cons_zero]))))
  go_ret
  exact ⟨rfl, hH.below⟩
/-- the elements of a slice of strings, as cells -/
def strsL (L : List (List UInt8)) : List Value := L.map fun l => Value.string (str l)
theorem strsL_len (L : List (List UInt8)) : (strsL L).length = L.length := by simp [strsL]
theorem strsL_snoc (L : List (List UInt8)) (x : List UInt8) : strsL (L ++ [x]) = strsL L ++ [.string (str x)] := by simp [strsL]
/-- strings.Join of a slice in a known block -/
theorem hJoin {B : Nat} {w0 W : World} {H : HB} {g c q : Nat} {t : TypeId} {bb : Bool} {J : List Value} {sep : List UInt8} {L : List (List UInt8)} {n : Nat} (i : Nat) (hH : Hp B w0 W H) (hi : nthH H i = some (g, t, bb, [.many (strsL L) n, .many J q]))
    (hL : L.length ≤ 1000) (hc : L.length ≤ c) (hlen : (Lib.join L sep).length ≤ 140737488355328) : Gives Tryz.prog 81 #[.slice (some ⟨g, 0, none⟩) L.length c, .string (str sep)] W (.string (str (Lib.join L sep))) := by
  have hr := (hH.rows.mem hi).1
  have hm : (L.map str).map (·.data.toList) = L := by
    rw [List.map_map]
    conv => rhs; rw [← List.map_id L]
    exact List.map_congr_left fun l _ => by simp [str]
  have := Any.strings_Join laysJoin joinX g 0 c (L.map str) (str sep) W (fun j x hx => by
    rw [Nat.zero_add, hr.cell, List.getElem?_toArray, fls_two, List.getElem?_append_left (by
      have := (List.getElem?_eq_some_iff.1 hx).1
      rw [strsL_len]; simpa using this)]
    unfold strsL
    rw [List.getElem?_map] at hx ⊢
    cases hl : L[j]? with
    | none => rw [hl] at hx; cases hx
    | some l => rw [hl] at hx; simp at hx; subst hx; rfl) hr.lt (by rw [List.length_map]; omega) (by rw [List.length_map]; exact hc) (by
      rw [hm, show (str sep).data.toList = sep by simp [str]]; exact hlen)
  rw [List.length_map, hm, show (str sep).data.toList = sep by simp [str]] at this
  refine Gives.of (this.mono ?_)
  rintro e w' ⟨rfl, hb⟩
  exact ⟨rfl, hb⟩
theorem hJoin0 {W : World} {sep : List UInt8} : Gives Tryz.prog 81 #[.slice none 0 0, .string (str sep)] W (.string (str [])) := by
  refine Gives.of ((Any.strings_Join_none laysJoin joinX none 0 (str sep) W).mono ?_)
  rintro e w' ⟨rfl, rfl⟩
  exact ⟨rfl, Below.refl _ _⟩
end
end
end Go.Proofs.YtjegjgdihpihoaaGreatDoor
