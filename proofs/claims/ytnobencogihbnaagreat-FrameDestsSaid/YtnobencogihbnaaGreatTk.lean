/-
  Addresses, records, talks: as data, and where they lie in memory.
-/
import Derived.Test.YtnobencogihbnaaGreatOld
import Derived.Test.YtnobencogihbnaaGreatAg
import Derived.Deep.Slices
namespace Go.Proofs.YtnobencogihbnaaGreat
open Go.ChangeShapes Go.WideShapes Go.ChangeAt Go.RowKit
set_option linter.unusedVariables false
set_option linter.unusedSimpArgs false
set_option maxRecDepth 20000
attribute [local irreducible] wpList

/-- an address, as data -/
structure Ad where
  v : Bool
  b : List UInt8
  h : b.length = 16
theorem Ad.ext2 {a c : Ad} (h1 : a.v = c.v) (h2 : a.b = c.b) : a = c := by cases a; cases c; simp at h1 h2; subst h1; subst h2; rfl
instance : DecidableEq Ad := fun a c => if h : a.v = c.v ∧ a.b = c.b then .isTrue (Ad.ext2 h.1 h.2) else .isFalse (fun e => h (by subst e; exact ⟨rfl, rfl⟩))
def Ad.z : Ad := ⟨false, zero16, rfl⟩
def Ad.z6 : Ad := ⟨true, zero16, rfl⟩
def adL (a : Ad) : List Value := addrL a.v a.b
theorem adL_len (a : Ad) : (adL a).length = 17 := addrL_length a.h
theorem adL_ok (a : Ad) : OkA (adL a) 17 := okA_addr a.h
theorem adL_z : adL Ad.z = zeroL Tryz.prog 24 := zaddr
theorem adL_0 (a : Ad) : CellA (adL a) 0 (.bool a.v) := rfl
theorem ad_eql (a c : Ad) (w : World) : (binOp .eql 24 (.agg (fls [.many (adL a) 17]).toArray) (.agg (fls [.many (adL c) 17]).toArray)).run Tryz.prog w = .ok (.bool (a == c)) w := by
  have h := addr_eql a.h c.h (v := a.v) (u := c.v) w
  unfold adL
  rw [addr_segs1, addr_segs1, h]
  congr 2
  rw [Bool.eq_iff_iff]
  simp only [Bool.and_eq_true, beq_iff_eq]
  exact ⟨fun h => Ad.ext2 h.1 h.2, fun h => by subst h; exact ⟨rfl, rfl⟩⟩
theorem ad_neq (a c : Ad) (w : World) : (binOp .neq 24 (.agg (fls [.many (adL a) 17]).toArray) (.agg (fls [.many (adL c) 17]).toArray)).run Tryz.prog w = .ok (.bool (a != c)) w := by
  have h := ad_eql a c w
  simp only [binOp, Sem.run_bind] at h ⊢
  simp [go_sem] at h ⊢
  cases hq : (Op.equal 24 (.agg (fls [.many (adL a) 17]).toArray) (.agg (fls [.many (adL c) 17]).toArray)).run Tryz.prog w with
  | ok b w' =>
    rw [hq] at h
    simp [go_sem] at h ⊢
    obtain ⟨h1, h2⟩ := h
    subst h2
    refine ⟨?_, rfl⟩
    cases b <;> simp_all
  | halt e w' => rw [hq] at h; simp [go_sem] at h
structure Rc where
  kind : Int
  grp : Ad
  src : List Ad
/-- a record in memory: its value, where its sources lie -/
structure Rv where
  r : Rc
  p : Option Addr
  c : Nat
def rvS (x : Rv) : List Seg := [.one (.int .i64 x.r.kind), .many (adL x.r.grp) 17, .one (.slice x.p x.r.src.length x.c)]
theorem rvS_ok (x : Rv) : okS (rvS x) := ⟨rfl, adL_ok _, rfl, trivial⟩
theorem rvS_len (x : Rv) : lenS (rvS x) = 19 := rfl
structure Tk where
  v6 : Bool
  ver : Int
  kind : Int
  resp : Int
  grp : Ad
  quiet : Bool
  rob : Int
  every : Int
  src : List Ad
  recs : List Rc
def tkS (T : Tk) (sp : Option Addr) (sc : Nat) (rp : Option Addr) (rc : Nat) : List Seg :=
  [.one (.bool T.v6), .one (.int .i64 T.ver), .one (.int .i64 T.kind), .one (.int .i64 T.resp), .many (adL T.grp) 17, .one (.bool T.quiet), .one (.int .i64 T.rob), .one (.int .i64 T.every), .one (.slice sp T.src.length sc), .one (.slice rp T.recs.length rc)]
def Tk.z : Tk := ⟨false, 0, 0, 0, Ad.z, false, 0, 0, [], []⟩
def maxN : Nat := 9223372036854775807
/-! ### in memory -/
def AdsAt (w : World) (p : Option Addr) (L : List Ad) : Prop := L.length ≤ 9223372036854775807 ∧ ∀ i (h : i < L.length), ∃ q, p = some q ∧ OldR w (q.add (i * 17)) (fls [.many (adL L[i]) 17])
def RcsAt (w : World) (p : Option Addr) (R : List Rc) : Prop := R.length ≤ 9223372036854775807 ∧ ∃ RR : List Rv, RR.map Rv.r = R ∧ ∀ i (h : i < RR.length), (∃ q, p = some q ∧ OldR w (q.add (i * 19)) (fls (rvS RR[i]))) ∧ AdsAt w RR[i].p RR[i].r.src
theorem AdsAt.below {w W : World} {p : Option Addr} {L : List Ad} (h : AdsAt w p L) (hb : Below w.heap.size w W) : AdsAt W p L :=
  ⟨h.1, fun i hi => by obtain ⟨q, h1, h2⟩ := h.2 i hi; exact ⟨q, h1, h2.below hb⟩⟩
theorem RcsAt.below {w W : World} {p : Option Addr} {R : List Rc} (h : RcsAt w p R) (hb : Below w.heap.size w W) : RcsAt W p R := by
  obtain ⟨h0, RR, h1, h2⟩ := h
  exact ⟨h0, RR, h1, fun i hi => ⟨by obtain ⟨q, h3, h4⟩ := (h2 i hi).1; exact ⟨q, h3, h4.below hb⟩, (h2 i hi).2.below hb⟩⟩
theorem AdsAt.get {w : World} {p : Option Addr} {L : List Ad} (h : AdsAt w p L) {j : Nat} (hj : j < L.length) : ∃ q, p = some q ∧ OldR w (q.add (j * 17)) (fls [.many (adL L[j]) 17]) ∧ OldC w (q.add (j * 17)) (.bool L[j].v) := by
  obtain ⟨q, h1, h2⟩ := h.2 j hj
  exact ⟨q, h1, h2, h2.cell0 rfl⟩
theorem OldR.partS {w : World} {q : Addr} {C A pre post : List Value} {k : Nat} (h : OldR w q C) (he : C = pre ++ (A ++ post)) (hk : pre.length = k + 1) : OldR w ⟨q.block, q.off + (k + 1), none⟩ A := by
  have := h.part he hk
  rwa [add_succ] at this
theorem RcsAt.get {w : World} {p : Option Addr} {R : List Rc} (h : RcsAt w p R) {j : Nat} (hj : j < R.length) : ∃ q s c, p = some q ∧ OldC w (q.add (j * 19)) (.int .i64 R[j].kind) ∧ OldR w ⟨(q.add (j * 19)).block, (q.add (j * 19)).off + 1, none⟩ (fls [.many (adL R[j].grp) 17]) ∧ OldC w ⟨(q.add (j * 19)).block, (q.add (j * 19)).off + 18, none⟩ (.slice s R[j].src.length c) ∧ AdsAt w s R[j].src ∧ OldR w (q.add (j * 19)) (fls [.one (.int .i64 R[j].kind), .many (adL R[j].grp) 17, .one (.slice s R[j].src.length c)]) := by
  obtain ⟨_, RR, rfl, h2⟩ := h
  have hj : j < RR.length := by simpa using hj
  obtain ⟨⟨q, h3, h4⟩, h5⟩ := h2 j hj
  simp only [List.getElem_map]
  refine ⟨q, RR[j].p, RR[j].c, h3, h4.cell0 rfl, ?_, ?_, h5, h4⟩
  · exact h4.partS (k := 0) (pre := [.int .i64 RR[j].r.kind]) (post := [.slice RR[j].p RR[j].r.src.length RR[j].c]) (by simp [rvS, fls]) rfl
  · refine h4.cellS (j := 17) ?_
    simp only [rvS, fls, List.getElem?_cons_succ]
    rw [List.getElem?_append_right (by rw [adL_len]; omega), adL_len]
    rfl
theorem AdsAt.nil {w : World} {p : Option Addr} : AdsAt w p [] := ⟨by simp, fun i h => by simp at h⟩
theorem RcsAt.nil {w : World} {p : Option Addr} : RcsAt w p [] := ⟨by simp, [], rfl, fun i h => by simp at h⟩
/-- a block of addresses | of records -/
def adsL (L : List Ad) : List Value := L.flatMap adL
def rvsL (R : List Rv) : List Value := R.flatMap fun x => fls (rvS x)
theorem adsL_len : ∀ L : List Ad, (adsL L).length = L.length * 17
  | [] => rfl
  | a :: L => by
    have := adsL_len L
    simp only [adsL, List.flatMap_cons, List.length_append, List.length_cons] at *
    rw [adL_len]
    omega
theorem adsL_ok (L : List Ad) : OkA (adsL L) (L.length * 17) := ⟨adsL_len L, fun v hv => by obtain ⟨a, _, ha⟩ := List.mem_flatMap.1 hv; exact (adL_ok a).2 v ha⟩
theorem adsL_snoc (L : List Ad) (a : Ad) : adsL (L ++ [a]) = adsL L ++ adL a := by simp [adsL]
theorem rvsL_len : ∀ R : List Rv, (rvsL R).length = R.length * 19
  | [] => rfl
  | x :: R => by
    have := rvsL_len R
    simp only [rvsL, List.flatMap_cons, List.length_append, List.length_cons] at *
    rw [okS_len (rvS_ok x), rvS_len]
    omega
theorem rvsL_ok (R : List Rv) : OkA (rvsL R) (R.length * 19) := ⟨rvsL_len R, fun v hv => by obtain ⟨x, _, hx⟩ := List.mem_flatMap.1 hv; exact okS_one (rvS_ok x) v hx⟩
theorem rvsL_snoc (R : List Rv) (x : Rv) : rvsL (R ++ [x]) = rvsL R ++ fls (rvS x) := by simp [rvsL]
theorem adsL_at {L : List Ad} {k : Nat} (hk : k < L.length) : AtL (adsL L) (k * 17) (fls [.many (adL L[k]) 17]) := by
  refine ⟨adsL (L.take k), adsL (L.drop (k + 1)), ?_, ?_⟩
  · rw [fls1]
    have : L = L.take k ++ (L[k] :: L.drop (k + 1)) := by rw [← List.drop_eq_getElem_cons hk, List.take_append_drop]
    have e : adsL L = adsL (L.take k ++ (L[k] :: L.drop (k + 1))) := congrArg adsL this
    rw [e]
    simp only [adsL, List.flatMap_append, List.flatMap_cons]
  · rw [adsL_len, List.length_take]; congr 1; omega
theorem rvsL_at {R : List Rv} {k : Nat} (hk : k < R.length) : AtL (rvsL R) (k * 19) (fls (rvS R[k])) := by
  refine ⟨rvsL (R.take k), rvsL (R.drop (k + 1)), ?_, ?_⟩
  · have : R = R.take k ++ (R[k] :: R.drop (k + 1)) := by rw [← List.drop_eq_getElem_cons hk, List.take_append_drop]
    have e : rvsL R = rvsL (R.take k ++ (R[k] :: R.drop (k + 1))) := congrArg rvsL this
    rw [e]
    simp only [rvsL, List.flatMap_append, List.flatMap_cons]
  · rw [rvsL_len, List.length_take]; congr 1; omega
theorem row_old {W : World} {g : Nat} {t : TypeId} {C A : List Value} {o : Nat} (hr : Row W g t C.toArray) (h : AtL C o A) : OldR W ((⟨g, 0, none⟩ : Addr).add o) A := by
  obtain ⟨pre, post, h1, h2⟩ := h
  refine OldR.part (pre := pre) (post := post) (C := C) ⟨fun j v hv => ?_, hr.lt⟩ h1 h2
  rw [show (⟨g, 0, none⟩ : Addr).add j = ⟨g, j, none⟩ by unfold Addr.add; split <;> simp_all, hr.cell, List.getElem?_toArray]
  exact hv
theorem AtL.app {C A R : List Value} {o : Nat} (h : AtL C o A) : AtL (C ++ R) o A := by
  obtain ⟨pre, post, h1, h2⟩ := h
  exact ⟨pre, post ++ R, by rw [h1]; simp, h2⟩
theorem adsAt_row {W : World} {g : Nat} {t : TypeId} {L : List Ad} {J : List Value} (hl : L.length ≤ 9223372036854775807) (hr : Row W g t (adsL L ++ J).toArray) : AdsAt W (some ⟨g, 0, none⟩) L :=
  ⟨hl, fun i hi => ⟨_, rfl, row_old hr (adsL_at hi).app⟩⟩
theorem rcsAt_row {W : World} {g : Nat} {t : TypeId} {R : List Rv} {J : List Value} (hl : R.length ≤ 9223372036854775807) (hr : Row W g t (rvsL R ++ J).toArray) (h : ∀ x ∈ R, AdsAt W x.p x.r.src) : RcsAt W (some ⟨g, 0, none⟩) (R.map Rv.r) :=
  ⟨by simpa using hl, R, rfl, fun i hi => ⟨⟨_, rfl, row_old hr (rvsL_at hi).app⟩, h _ (List.getElem_mem hi)⟩⟩
/-! ### arguments -/
theorem one_at {L : List Value} {i : Nat} {v : Value} (h : (L.drop i).take 1 = [v]) : L[i]? = some v := by
  have := congrArg (fun l => l[0]?) h
  simpa using this
def inI (n : Int) : Prop := -9223372036854775808 ≤ n ∧ n ≤ 9223372036854775807
structure Tk.Ok (T : Tk) : Prop where
  ver : inI T.ver
  kind : inI T.kind
  resp : inI T.resp
  rob : inI T.rob
  every : inI T.every
  recs : ∀ r ∈ T.recs, inI r.kind
section
variable {H : Type} {enc : TypeId × Value → H} {W : World} {base : Nat} {spare : Nat → Bool} {held : Bool} {fuel : Nat} {cs : List Value} {x : DataW H × List MemPlace}
theorem ad_trod (h : DataW.trod enc Tryz.prog W base spare held fuel 24 cs = some x) : ∃ a : Ad, cs = adL a := by
  obtain ⟨xs, n, rfl, _, hl, hxl, hf⟩ := DataW.trod_struct Tryz.underlying24 h
  have hl : cs.length = 17 := by rw [hl]; kernel_rfl
  have hxl : xs.length = 2 := hxl
  have g0 := hf 0 _ rfl
  have g1 := hf 1 _ rfl
  have cb : Tryz.prog.cellsOf 4 = 1 := by kernel_rfl
  have ca : Tryz.prog.cellsOf 22 = 16 := by kernel_rfl
  have cu : Tryz.prog.cellsOf 5 = 1 := by kernel_rfl
  change DataW.trod enc Tryz.prog W base spare held n 4 ((cs.drop 0).take (Tryz.prog.cellsOf 4)) = xs[0]? at g0
  change DataW.trod enc Tryz.prog W base spare held n 22 ((cs.drop 1).take (Tryz.prog.cellsOf 22)) = xs[1]? at g1
  rw [cb, List.getElem?_eq_getElem (show 0 < xs.length by omega)] at g0
  rw [ca, List.getElem?_eq_getElem (show 1 < xs.length by omega)] at g1
  obtain ⟨b, hb, _⟩ := DataW.trod_bool Tryz.underlying4 g0
  obtain ⟨ys, m, _, _, _, hyl, hg⟩ := DataW.trod_array Tryz.underlying22 g1
  have each : ∀ i, i < 16 → ∃ k : UInt8, cs[1 + i]? = some (.int .u8 (k.toNat : Int)) := fun i hi => by
    have hgi := hg i hi
    rw [cu, List.getElem?_eq_getElem (show i < ys.length by omega), Nat.mul_one] at hgi
    obtain ⟨k, hk, _, hw⟩ := DataW.trod_int Tryz.underlying5 hgi
    have h1 := one_at hk
    rw [List.getElem?_take, if_pos hi, List.getElem?_drop] at h1
    simp only [Lit.wf, Bool.and_eq_true, decide_eq_true_eq] at hw
    have hb1 : 0 ≤ k := hw.1
    have hb2 : k ≤ 255 := hw.2
    refine ⟨UInt8.ofNat k.toNat, ?_⟩
    rw [h1]
    congr 2
    rw [UInt8.toNat_ofNat']
    omega
  obtain ⟨K, hK⟩ := Classical.axiomOfChoice (r := fun (i : Fin 16) (k : UInt8) => cs[1 + i.1]? = some (.int .u8 (k.toNat : Int))) (fun i => each i.1 i.2)
  refine ⟨⟨b, List.ofFn K, by simp⟩, ?_⟩
  refine List.ext_getElem? fun i => ?_
  match i with
  | 0 =>
    have := one_at hb
    simpa [adL, addrL] using this
  | i + 1 =>
    show cs[i + 1]? = (addrL b (List.ofFn K))[i + 1]?
    unfold addrL
    rw [List.getElem?_cons_succ, List.getElem?_map]
    by_cases hi : i < 16
    · have := hK ⟨i, hi⟩
      rw [show i + 1 = 1 + i by omega, this, List.getElem?_eq_getElem (by simpa using hi)]
      rw [List.getElem_ofFn]
      rfl
    · rw [List.getElem?_eq_none (by omega), List.getElem?_eq_none (by simpa using hi)]
      rfl
theorem oldR_of {W : World} {a : Addr} {n k : Nat} {cs' : List Value} (h1 : W.cells? base (a.add n) k = some cs') (hk : 0 < k) : OldR W (a.add n) cs' := by
  obtain ⟨_, hlen, hcell⟩ := World.cells?_some h1
  refine ⟨fun j x hj => ?_, ?_⟩
  · have hjk : j < k := by rw [← hlen]; exact (List.getElem?_eq_some_iff.1 hj).1
    rw [hcell j hjk]; exact hj
  · have h0 := hcell 0 hk
    rw [List.getElem?_eq_getElem (by omega)] at h0
    have := cell_lt1 h0
    rwa [add_block] at this
theorem ads_trod (h : DataW.trod enc Tryz.prog W base (fun _ => true) held fuel 25 cs = some x) : ∃ (p : Option Addr) (L : List Ad) (c : Nat), cs = [.slice p L.length c] ∧ AdsAt W p L ∧ L.length ≤ c ∧ c ≤ 9223372036854775807 ∧ (p = none → L = [] ∧ c = 0) := by
  have c17 : Tryz.prog.cellsOf 24 = 17 := by kernel_rfl
  rcases Go.Deep.open_slice Tryz.underlying25 h with ⟨hc, _⟩ | ⟨a, len, cap, m, n, D, Pl, hc, _, hlc, hcm, hm, hx, hcells⟩
  · exact ⟨none, [], 0, hc, AdsAt.nil, by simp, by simp, fun _ => ⟨rfl, rfl⟩⟩
  · simp only [if_true] at hm
    rw [c17] at hcells
    have each : ∀ i : Fin len, ∃ q : Ad, OldR W (a.add (i.1 * 17)) (fls [.many (adL q) 17]) := fun i => by
      obtain ⟨cs', h1, h2⟩ := hcells i.1 (by have := i.2; omega)
      obtain ⟨q, rfl⟩ := ad_trod h2
      exact ⟨q, by rw [fls1]; exact oldR_of h1 (by omega)⟩
    obtain ⟨q, hq⟩ := Classical.axiomOfChoice each
    have hcm : cap ≤ 9223372036854775807 := by simpa only [maxLen] using hcm
    refine ⟨some a, List.ofFn q, cap, by rw [hc]; simp, ⟨by simp; omega, fun i hi => ⟨a, rfl, ?_⟩⟩, by simpa using hlc, hcm, fun h => by cases h⟩
    have := hq ⟨i, by simpa using hi⟩
    rw [List.getElem_ofFn]
    exact this
theorem cut1 {L : List Value} {n : Nat} (h : L.length = n + 1) : ∃ v L', L = v :: L' ∧ L'.length = n := by
  cases L with
  | nil => simp at h
  | cons v L' => exact ⟨v, L', rfl, by simpa using h⟩
end
end Go.Proofs.YtnobencogihbnaaGreat
