/-
  Joined texts: Tk, Ts, Sm.
-/
import Derived.Test.YtdnehjhijmeihaaGreatQSl
import Derived.Test.YtdnehjhijmeihaaGreatQAddr
import Derived.Deep.Slices
namespace Go.Proofs.YtdnehjhijmeihaaGreat
open Go.ChangeShapes Go.WideShapes Go.ChangeAt Go.RowKit
set_option linter.unusedVariables false
set_option linter.unusedSimpArgs false
set_option maxRecDepth 20000
attribute [local irreducible] wpList
structure Ad where
  v : Bool
  b : List UInt8
  h : b.length = 16
theorem Ad.ext2 {a c : Ad} (h1 : a.v = c.v) (h2 : a.b = c.b) : a = c := by cases a; cases c; simp at h1 h2; subst h1; subst h2; rfl
instance : DecidableEq Ad := fun a c => if h : a.v = c.v ∧ a.b = c.b then .isTrue (Ad.ext2 h.1 h.2) else .isFalse (fun e => h (by subst e; exact ⟨rfl, rfl⟩))
def Ad.z : Ad := ⟨false, zero16, rfl⟩
def Ad.z6 : Ad := ⟨true, zero16, rfl⟩
def adL (a : Ad) : List Value := addrL a.v a.b
theorem adL_len (a : Ad) : (adL a).length = 17 := addrL_length a.h
theorem adL_ok (a : Ad) : OkA (adL a) 17 := okA_addr a.h
theorem adL_z : adL Ad.z = zeroL Tryz.prog 25 := zaddr
theorem adL_0 (a : Ad) : CellA (adL a) 0 (.bool a.v) := rfl
theorem ad_eql (a c : Ad) (w : World) : (binOp .eql 25 (.agg (fls [.many (adL a) 17]).toArray) (.agg (fls [.many (adL c) 17]).toArray)).run Tryz.prog w = .ok (.bool (a == c)) w := by
  have h := addr_eql a.h c.h (v := a.v) (u := c.v) w
  unfold adL
  rw [addr_segs1, addr_segs1, h]
  congr 2
  rw [Bool.eq_iff_iff]
  simp only [Bool.and_eq_true, beq_iff_eq]
  exact ⟨fun h => Ad.ext2 h.1 h.2, fun h => by subst h; exact ⟨rfl, rfl⟩⟩
theorem ad_neq (a c : Ad) (w : World) : (binOp .neq 25 (.agg (fls [.many (adL a) 17]).toArray) (.agg (fls [.many (adL c) 17]).toArray)).run Tryz.prog w = .ok (.bool (a != c)) w := by
  have h := ad_eql a c w
  simp only [binOp, Sem.run_bind] at h ⊢
  simp [go_sem] at h ⊢
  cases hq : (Op.equal 25 (.agg (fls [.many (adL a) 17]).toArray) (.agg (fls [.many (adL c) 17]).toArray)).run Tryz.prog w with
  | ok b w' =>
    rw [hq] at h
    simp [go_sem] at h ⊢
    obtain ⟨h1, h2⟩ := h
    subst h2
    refine ⟨?_, rfl⟩
    cases b <;> simp_all
  | halt e w' => rw [hq] at h; simp [go_sem] at h
structure Rc where
  kind : Int
  grp : Ad
  src : List Ad
structure Rv where
  r : Rc
  p : Option Addr
  c : Nat
def rvS (x : Rv) : List Seg := [.one (.int .i64 x.r.kind), .many (adL x.r.grp) 17, .one (.slice x.p x.r.src.length x.c)]
theorem rvS_ok (x : Rv) : okS (rvS x) := ⟨rfl, adL_ok _, rfl, trivial⟩
theorem rvS_len (x : Rv) : lenS (rvS x) = 19 := rfl
structure Tk where
  v6 : Bool
  ver : Int
  kind : Int
  resp : Int
  grp : Ad
  quiet : Bool
  rob : Int
  every : Int
  src : List Ad
  recs : List Rc
def tkS (T : Tk) (sp : Option Addr) (sc : Nat) (rp : Option Addr) (rc : Nat) : List Seg :=
  [.one (.bool T.v6), .one (.int .i64 T.ver), .one (.int .i64 T.kind), .one (.int .i64 T.resp), .many (adL T.grp) 17, .one (.bool T.quiet), .one (.int .i64 T.rob), .one (.int .i64 T.every), .one (.slice sp T.src.length sc), .one (.slice rp T.recs.length rc)]
def Tk.z : Tk := ⟨false, 0, 0, 0, Ad.z, false, 0, 0, [], []⟩
def AdsAt (w : World) (p : Option Addr) (L : List Ad) : Prop := L.length ≤ 9223372036854775807 ∧ ∀ i (h : i < L.length), ∃ q, p = some q ∧ OldR w (q.add (i * 17)) (fls [.many (adL L[i]) 17])
def RcsAt (w : World) (p : Option Addr) (R : List Rc) : Prop := R.length ≤ 9223372036854775807 ∧ ∃ RR : List Rv, RR.map Rv.r = R ∧ ∀ i (h : i < RR.length), (∃ q, p = some q ∧ OldR w (q.add (i * 19)) (fls (rvS RR[i]))) ∧ AdsAt w RR[i].p RR[i].r.src
theorem AdsAt.below {w W : World} {p : Option Addr} {L : List Ad} (h : AdsAt w p L) (hb : Below w.heap.size w W) : AdsAt W p L :=
  ⟨h.1, fun i hi => by obtain ⟨q, h1, h2⟩ := h.2 i hi; exact ⟨q, h1, h2.below hb⟩⟩
theorem RcsAt.below {w W : World} {p : Option Addr} {R : List Rc} (h : RcsAt w p R) (hb : Below w.heap.size w W) : RcsAt W p R := by
  obtain ⟨h0, RR, h1, h2⟩ := h
  exact ⟨h0, RR, h1, fun i hi => ⟨by obtain ⟨q, h3, h4⟩ := (h2 i hi).1; exact ⟨q, h3, h4.below hb⟩, (h2 i hi).2.below hb⟩⟩
theorem AdsAt.get {w : World} {p : Option Addr} {L : List Ad} (h : AdsAt w p L) {j : Nat} (hj : j < L.length) : ∃ q, p = some q ∧ OldR w (q.add (j * 17)) (fls [.many (adL L[j]) 17]) ∧ OldC w (q.add (j * 17)) (.bool L[j].v) := by
  obtain ⟨q, h1, h2⟩ := h.2 j hj
  exact ⟨q, h1, h2, h2.cell0 rfl⟩
theorem OldR.partS {w : World} {q : Addr} {C A pre post : List Value} {k : Nat} (h : OldR w q C) (he : C = pre ++ (A ++ post)) (hk : pre.length = k + 1) : OldR w ⟨q.block, q.off + (k + 1), none⟩ A := by
  have := h.part he hk
  rwa [add_succ] at this
theorem RcsAt.get {w : World} {p : Option Addr} {R : List Rc} (h : RcsAt w p R) {j : Nat} (hj : j < R.length) : ∃ q s c, p = some q ∧ OldC w (q.add (j * 19)) (.int .i64 R[j].kind) ∧ OldR w ⟨(q.add (j * 19)).block, (q.add (j * 19)).off + 1, none⟩ (fls [.many (adL R[j].grp) 17]) ∧ OldC w ⟨(q.add (j * 19)).block, (q.add (j * 19)).off + 18, none⟩ (.slice s R[j].src.length c) ∧ AdsAt w s R[j].src ∧ OldR w (q.add (j * 19)) (fls [.one (.int .i64 R[j].kind), .many (adL R[j].grp) 17, .one (.slice s R[j].src.length c)]) := by
  obtain ⟨_, RR, rfl, h2⟩ := h
  have hj : j < RR.length := by simpa using hj
  obtain ⟨⟨q, h3, h4⟩, h5⟩ := h2 j hj
  simp only [List.getElem_map]
  refine ⟨q, RR[j].p, RR[j].c, h3, h4.cell0 rfl, ?_, ?_, h5, h4⟩
  · exact h4.partS (k := 0) (pre := [.int .i64 RR[j].r.kind]) (post := [.slice RR[j].p RR[j].r.src.length RR[j].c]) (by simp [rvS, fls]) rfl
  · refine h4.cellS (j := 17) ?_
    simp only [rvS, fls, List.getElem?_cons_succ]
    rw [List.getElem?_append_right (by rw [adL_len]; omega), adL_len]
    rfl
theorem AdsAt.nil {w : World} {p : Option Addr} : AdsAt w p [] := ⟨by simp, fun i h => by simp at h⟩
theorem RcsAt.nil {w : World} {p : Option Addr} : RcsAt w p [] := ⟨by simp, [], rfl, fun i h => by simp at h⟩
def adsL (L : List Ad) : List Value := L.flatMap adL
def rvsL (R : List Rv) : List Value := R.flatMap fun x => fls (rvS x)
theorem adsL_len : ∀ L : List Ad, (adsL L).length = L.length * 17
  | [] => rfl
  | a :: L => by
    have := adsL_len L
    simp only [adsL, List.flatMap_cons, List.length_append, List.length_cons] at *
    rw [adL_len]
    omega
theorem adsL_snoc (L : List Ad) (a : Ad) : adsL (L ++ [a]) = adsL L ++ adL a := by simp [adsL]
theorem rvsL_len : ∀ R : List Rv, (rvsL R).length = R.length * 19
  | [] => rfl
  | x :: R => by
    have := rvsL_len R
    simp only [rvsL, List.flatMap_cons, List.length_append, List.length_cons] at *
    rw [okS_len (rvS_ok x), rvS_len]
    omega
theorem rvsL_snoc (R : List Rv) (x : Rv) : rvsL (R ++ [x]) = rvsL R ++ fls (rvS x) := by simp [rvsL]
theorem adsL_at {L : List Ad} {k : Nat} (hk : k < L.length) : AtL (adsL L) (k * 17) (fls [.many (adL L[k]) 17]) := by
  refine ⟨adsL (L.take k), adsL (L.drop (k + 1)), ?_, ?_⟩
  · rw [fls1]
    have : L = L.take k ++ (L[k] :: L.drop (k + 1)) := by rw [← List.drop_eq_getElem_cons hk, List.take_append_drop]
    have e : adsL L = adsL (L.take k ++ (L[k] :: L.drop (k + 1))) := congrArg adsL this
    rw [e]
    simp only [adsL, List.flatMap_append, List.flatMap_cons]
  · rw [adsL_len, List.length_take]; congr 1; omega
theorem rvsL_at {R : List Rv} {k : Nat} (hk : k < R.length) : AtL (rvsL R) (k * 19) (fls (rvS R[k])) := by
  refine ⟨rvsL (R.take k), rvsL (R.drop (k + 1)), ?_, ?_⟩
  · have : R = R.take k ++ (R[k] :: R.drop (k + 1)) := by rw [← List.drop_eq_getElem_cons hk, List.take_append_drop]
    have e : rvsL R = rvsL (R.take k ++ (R[k] :: R.drop (k + 1))) := congrArg rvsL this
    rw [e]
    simp only [rvsL, List.flatMap_append, List.flatMap_cons]
  · rw [rvsL_len, List.length_take]; congr 1; omega
theorem row_old {W : World} {g : Nat} {t : TypeId} {C A : List Value} {o : Nat} (hr : Row W g t C.toArray) (h : AtL C o A) : OldR W ((⟨g, 0, none⟩ : Addr).add o) A := by
  obtain ⟨pre, post, h1, h2⟩ := h
  refine OldR.part (pre := pre) (post := post) (C := C) ⟨fun j v hv => ?_, hr.lt⟩ h1 h2
  rw [show (⟨g, 0, none⟩ : Addr).add j = ⟨g, j, none⟩ by unfold Addr.add; split <;> simp_all, hr.cell, List.getElem?_toArray]
  exact hv
theorem AtL.app {C A R : List Value} {o : Nat} (h : AtL C o A) : AtL (C ++ R) o A := by
  obtain ⟨pre, post, h1, h2⟩ := h
  exact ⟨pre, post ++ R, by rw [h1]; simp, h2⟩
theorem adsAt_row {W : World} {g : Nat} {t : TypeId} {L : List Ad} {J : List Value} (hl : L.length ≤ 9223372036854775807) (hr : Row W g t (adsL L ++ J).toArray) : AdsAt W (some ⟨g, 0, none⟩) L :=
  ⟨hl, fun i hi => ⟨_, rfl, row_old hr (adsL_at hi).app⟩⟩
theorem rcsAt_row {W : World} {g : Nat} {t : TypeId} {R : List Rv} {J : List Value} (hl : R.length ≤ 9223372036854775807) (hr : Row W g t (rvsL R ++ J).toArray) (h : ∀ x ∈ R, AdsAt W x.p x.r.src) : RcsAt W (some ⟨g, 0, none⟩) (R.map Rv.r) :=
  ⟨by simpa using hl, R, rfl, fun i hi => ⟨⟨_, rfl, row_old hr (rvsL_at hi).app⟩, h _ (List.getElem_mem hi)⟩⟩
theorem one_at {L : List Value} {i : Nat} {v : Value} (h : (L.drop i).take 1 = [v]) : L[i]? = some v := by
  have := congrArg (fun l => l[0]?) h
  simpa using this
def inI (n : Int) : Prop := -9223372036854775808 ≤ n ∧ n ≤ 9223372036854775807
structure Tk.Ok (T : Tk) : Prop where
  ver : inI T.ver
  kind : inI T.kind
  resp : inI T.resp
  rob : inI T.rob
  every : inI T.every
  recs : ∀ r ∈ T.recs, inI r.kind
section
variable {H : Type} {enc : TypeId × Value → H} {W : World} {base : Nat} {spare : Nat → Bool} {held : Bool} {fuel : Nat} {cs : List Value} {x : DataW H × List MemPlace}
theorem ad_trod (h : DataW.trod enc Tryz.prog W base spare held fuel 25 cs = some x) : ∃ a : Ad, cs = adL a := by
  obtain ⟨xs, n, rfl, _, hl, hxl, hf⟩ := DataW.trod_struct Tryz.underlying25 h
  have hl : cs.length = 17 := by rw [hl]; kernel_rfl
  have hxl : xs.length = 2 := hxl
  have g0 := hf 0 _ rfl
  have g1 := hf 1 _ rfl
  have cb : Tryz.prog.cellsOf 4 = 1 := by kernel_rfl
  have ca : Tryz.prog.cellsOf 23 = 16 := by kernel_rfl
  have cu : Tryz.prog.cellsOf 5 = 1 := by kernel_rfl
  change DataW.trod enc Tryz.prog W base spare held n 4 ((cs.drop 0).take (Tryz.prog.cellsOf 4)) = xs[0]? at g0
  change DataW.trod enc Tryz.prog W base spare held n 23 ((cs.drop 1).take (Tryz.prog.cellsOf 23)) = xs[1]? at g1
  rw [cb, List.getElem?_eq_getElem (show 0 < xs.length by omega)] at g0
  rw [ca, List.getElem?_eq_getElem (show 1 < xs.length by omega)] at g1
  obtain ⟨b, hb, _⟩ := DataW.trod_bool Tryz.underlying4 g0
  obtain ⟨ys, m, _, _, _, hyl, hg⟩ := DataW.trod_array Tryz.underlying23 g1
  have each : ∀ i, i < 16 → ∃ k : UInt8, cs[1 + i]? = some (.int .u8 (k.toNat : Int)) := fun i hi => by
    have hgi := hg i hi
    rw [cu, List.getElem?_eq_getElem (show i < ys.length by omega), Nat.mul_one] at hgi
    obtain ⟨k, hk, _, hw⟩ := DataW.trod_int Tryz.underlying5 hgi
    have h1 := one_at hk
    rw [List.getElem?_take, if_pos hi, List.getElem?_drop] at h1
    simp only [Lit.wf, Bool.and_eq_true, decide_eq_true_eq] at hw
    have hb1 : 0 ≤ k := hw.1
    have hb2 : k ≤ 255 := hw.2
    refine ⟨UInt8.ofNat k.toNat, ?_⟩
    rw [h1]
    congr 2
    rw [UInt8.toNat_ofNat']
    omega
  obtain ⟨K, hK⟩ := Classical.axiomOfChoice (r := fun (i : Fin 16) (k : UInt8) => cs[1 + i.1]? = some (.int .u8 (k.toNat : Int))) (fun i => each i.1 i.2)
  refine ⟨⟨b, List.ofFn K, by simp⟩, ?_⟩
  refine List.ext_getElem? fun i => ?_
  match i with
  | 0 =>
    have := one_at hb
    simpa [adL, addrL] using this
  | i + 1 =>
    show cs[i + 1]? = (addrL b (List.ofFn K))[i + 1]?
    unfold addrL
    rw [List.getElem?_cons_succ, List.getElem?_map]
    by_cases hi : i < 16
    · have := hK ⟨i, hi⟩
      rw [show i + 1 = 1 + i by omega, this, List.getElem?_eq_getElem (by simpa using hi)]
      rw [List.getElem_ofFn]
      rfl
    · rw [List.getElem?_eq_none (by omega), List.getElem?_eq_none (by simpa using hi)]
      rfl
theorem oldR_of {W : World} {a : Addr} {n k : Nat} {cs' : List Value} (h1 : W.cells? base (a.add n) k = some cs') (hk : 0 < k) : OldR W (a.add n) cs' := by
  obtain ⟨_, hlen, hcell⟩ := World.cells?_some h1
  refine ⟨fun j x hj => ?_, ?_⟩
  · have hjk : j < k := by rw [← hlen]; exact (List.getElem?_eq_some_iff.1 hj).1
    rw [hcell j hjk]; exact hj
  · have h0 := hcell 0 hk
    rw [List.getElem?_eq_getElem (by omega)] at h0
    have := cell_lt1 h0
    rwa [add_block] at this
theorem ads_trod (h : DataW.trod enc Tryz.prog W base (fun _ => true) held fuel 26 cs = some x) : ∃ (p : Option Addr) (L : List Ad) (c : Nat), cs = [.slice p L.length c] ∧ AdsAt W p L ∧ L.length ≤ c ∧ c ≤ 9223372036854775807 ∧ (p = none → L = [] ∧ c = 0) := by
  have c17 : Tryz.prog.cellsOf 25 = 17 := by kernel_rfl
  rcases Go.Deep.open_slice Tryz.underlying26 h with ⟨hc, _⟩ | ⟨a, len, cap, m, n, D, Pl, hc, _, hlc, hcm, hm, hx, hcells⟩
  · exact ⟨none, [], 0, hc, AdsAt.nil, by simp, by simp, fun _ => ⟨rfl, rfl⟩⟩
  · simp only [if_true] at hm
    rw [c17] at hcells
    have each : ∀ i : Fin len, ∃ q : Ad, OldR W (a.add (i.1 * 17)) (fls [.many (adL q) 17]) := fun i => by
      obtain ⟨cs', h1, h2⟩ := hcells i.1 (by have := i.2; omega)
      obtain ⟨q, rfl⟩ := ad_trod h2
      exact ⟨q, by rw [fls1]; exact oldR_of h1 (by omega)⟩
    obtain ⟨q, hq⟩ := Classical.axiomOfChoice each
    have hcm : cap ≤ 9223372036854775807 := by simpa only [maxLen] using hcm
    refine ⟨some a, List.ofFn q, cap, by rw [hc]; simp, ⟨by simp; omega, fun i hi => ⟨a, rfl, ?_⟩⟩, by simpa using hlc, hcm, fun h => by cases h⟩
    have := hq ⟨i, by simpa using hi⟩
    rw [List.getElem_ofFn]
    exact this
theorem rc_trod (h : DataW.trod enc Tryz.prog W base (fun _ => true) held fuel 119 cs = some x) : ∃ y : Rv, cs = fls (rvS y) ∧ AdsAt W y.p y.r.src ∧ inI y.r.kind := by
  obtain ⟨xs, n, rfl, _, hl, hxl, hf⟩ := DataW.trod_struct Tryz.underlying119 h
  have hl : cs.length = 19 := by rw [hl]; kernel_rfl
  have hxl : xs.length = 3 := hxl
  have g0 := hf 0 _ rfl
  have g1 := hf 1 _ rfl
  have g2 := hf 2 _ rfl
  have ci : Tryz.prog.cellsOf 3 = 1 := by kernel_rfl
  have ca : Tryz.prog.cellsOf 25 = 17 := by kernel_rfl
  have cl : Tryz.prog.cellsOf 26 = 1 := by kernel_rfl
  change DataW.trod enc Tryz.prog W base (fun _ => true) held n 3 ((cs.drop 0).take (Tryz.prog.cellsOf 3)) = xs[0]? at g0
  change DataW.trod enc Tryz.prog W base (fun _ => true) held n 25 ((cs.drop 1).take (Tryz.prog.cellsOf 25)) = xs[1]? at g1
  change DataW.trod enc Tryz.prog W base (fun _ => true) held n 26 ((cs.drop 18).take (Tryz.prog.cellsOf 26)) = xs[2]? at g2
  rw [ci, List.getElem?_eq_getElem (show 0 < xs.length by omega)] at g0
  rw [ca, List.getElem?_eq_getElem (show 1 < xs.length by omega)] at g1
  rw [cl, List.getElem?_eq_getElem (show 2 < xs.length by omega)] at g2
  obtain ⟨k, hk, _, hw⟩ := DataW.trod_int Tryz.underlying3 g0
  obtain ⟨a, ha⟩ := ad_trod g1
  obtain ⟨p, L, c, hL, hA, _⟩ := ads_trod g2
  simp only [Lit.wf, Bool.and_eq_true, decide_eq_true_eq] at hw
  refine ⟨⟨⟨k, a, L⟩, p, c⟩, ?_, hA, hw⟩
  have e1 : cs = cs.take 1 ++ ((cs.drop 1).take 17 ++ cs.drop 18) := by
    have : cs.drop 18 = (cs.drop 1).drop 17 := by rw [List.drop_drop]
    rw [this, List.take_append_drop, List.take_append_drop]
  rw [List.take_of_length_le (by simp; omega)] at hL
  rw [e1, ha, hL]
  rw [List.drop_zero] at hk
  rw [hk]
  rfl
theorem rcs_trod (h : DataW.trod enc Tryz.prog W base (fun _ => true) held fuel 27 cs = some x) : ∃ (p : Option Addr) (R : List Rc) (c : Nat), cs = [.slice p R.length c] ∧ RcsAt W p R ∧ (∀ r ∈ R, inI r.kind) ∧ R.length ≤ c ∧ c ≤ 9223372036854775807 ∧ (p = none → R = [] ∧ c = 0) := by
  have c19 : Tryz.prog.cellsOf 119 = 19 := by kernel_rfl
  rcases Go.Deep.open_slice Tryz.underlying27 h with ⟨hc, _⟩ | ⟨a, len, cap, m, n, D, Pl, hc, _, hlc, hcm, hm, hx, hcells⟩
  · exact ⟨none, [], 0, hc, RcsAt.nil, by simp, by simp, by simp, fun _ => ⟨rfl, rfl⟩⟩
  · simp only [if_true] at hm
    rw [c19] at hcells
    have each : ∀ i : Fin len, ∃ y : Rv, OldR W (a.add (i.1 * 19)) (fls (rvS y)) ∧ AdsAt W y.p y.r.src ∧ inI y.r.kind := fun i => by
      obtain ⟨cs', h1, h2⟩ := hcells i.1 (by have := i.2; omega)
      obtain ⟨y, rfl, h3, h4⟩ := rc_trod h2
      exact ⟨y, oldR_of h1 (by omega), h3, h4⟩
    obtain ⟨q, hq⟩ := Classical.axiomOfChoice each
    have hcm : cap ≤ 9223372036854775807 := by simpa only [maxLen] using hcm
    refine ⟨some a, (List.ofFn q).map Rv.r, cap, by rw [hc]; simp, ⟨by simp; omega, List.ofFn q, rfl, fun i hi => ⟨⟨a, rfl, ?_⟩, ?_⟩⟩, fun r hr => ?_, by simpa using hlc, hcm, fun h => by cases h⟩
    · have := (hq ⟨i, by simpa using hi⟩).1
      rw [List.getElem_ofFn]
      exact this
    · have := (hq ⟨i, by simpa using hi⟩).2.1
      rw [List.getElem_ofFn]
      exact this
    · obtain ⟨y, hy, rfl⟩ := List.mem_map.1 hr
      obtain ⟨i, rfl⟩ := List.mem_ofFn.1 hy
      exact (hq i).2.2
theorem take_split {cs : List Value} (h : cs.length = 26) : cs = cs.take 1 ++ ((cs.drop 1).take 1 ++ ((cs.drop 2).take 1 ++ ((cs.drop 3).take 1 ++ ((cs.drop 4).take 17 ++ ((cs.drop 21).take 1 ++ ((cs.drop 22).take 1 ++ ((cs.drop 23).take 1 ++ ((cs.drop 24).take 1 ++ (cs.drop 25).take 1)))))))) := by
  have s : ∀ i n, cs.drop i = (cs.drop i).take n ++ cs.drop (i + n) := fun i n => by rw [← List.drop_drop, List.take_append_drop]
  have s0 : cs = cs.take 1 ++ cs.drop 1 := (List.take_append_drop 1 cs).symm
  have e : (cs.drop 25).take 1 = cs.drop 25 := List.take_of_length_le (by simp; omega)
  conv => lhs; rw [s0, s 1 1, s 2 1, s 3 1, s 4 17, s 21 1, s 22 1, s 23 1, s 24 1]
  rw [e]
theorem tk_trod (h : DataW.trod enc Tryz.prog W base (fun _ => true) held fuel 29 cs = some x) : ∃ (T : Tk) (sp rp : Option Addr) (sc rc : Nat), cs = fls (tkS T sp sc rp rc) ∧ AdsAt W sp T.src ∧ RcsAt W rp T.recs ∧ T.Ok ∧ (sp = none → T.src = [] ∧ sc = 0) ∧ (rp = none → T.recs = [] ∧ rc = 0) ∧ T.src.length ≤ sc ∧ sc ≤ 9223372036854775807 ∧ T.recs.length ≤ rc ∧ rc ≤ 9223372036854775807 := by
  obtain ⟨xs, n, rfl, _, hl, hxl, hf⟩ := DataW.trod_struct Tryz.underlying29 h
  have hl : cs.length = 26 := by rw [hl]; kernel_rfl
  have hxl : xs.length = 10 := hxl
  have ci : Tryz.prog.cellsOf 3 = 1 := by kernel_rfl
  have cb : Tryz.prog.cellsOf 4 = 1 := by kernel_rfl
  have ca : Tryz.prog.cellsOf 25 = 17 := by kernel_rfl
  have cl : Tryz.prog.cellsOf 26 = 1 := by kernel_rfl
  have cr : Tryz.prog.cellsOf 27 = 1 := by kernel_rfl
  have g0 := hf 0 _ rfl
  have g1 := hf 1 _ rfl
  have g2 := hf 2 _ rfl
  have g3 := hf 3 _ rfl
  have g4 := hf 4 _ rfl
  have g5 := hf 5 _ rfl
  have g6 := hf 6 _ rfl
  have g7 := hf 7 _ rfl
  have g8 := hf 8 _ rfl
  have g9 := hf 9 _ rfl
  change DataW.trod enc Tryz.prog W base (fun _ => true) held n 4 ((cs.drop 0).take (Tryz.prog.cellsOf 4)) = xs[0]? at g0
  change DataW.trod enc Tryz.prog W base (fun _ => true) held n 3 ((cs.drop 1).take (Tryz.prog.cellsOf 3)) = xs[1]? at g1
  change DataW.trod enc Tryz.prog W base (fun _ => true) held n 3 ((cs.drop 2).take (Tryz.prog.cellsOf 3)) = xs[2]? at g2
  change DataW.trod enc Tryz.prog W base (fun _ => true) held n 3 ((cs.drop 3).take (Tryz.prog.cellsOf 3)) = xs[3]? at g3
  change DataW.trod enc Tryz.prog W base (fun _ => true) held n 25 ((cs.drop 4).take (Tryz.prog.cellsOf 25)) = xs[4]? at g4
  change DataW.trod enc Tryz.prog W base (fun _ => true) held n 4 ((cs.drop 21).take (Tryz.prog.cellsOf 4)) = xs[5]? at g5
  change DataW.trod enc Tryz.prog W base (fun _ => true) held n 3 ((cs.drop 22).take (Tryz.prog.cellsOf 3)) = xs[6]? at g6
  change DataW.trod enc Tryz.prog W base (fun _ => true) held n 3 ((cs.drop 23).take (Tryz.prog.cellsOf 3)) = xs[7]? at g7
  change DataW.trod enc Tryz.prog W base (fun _ => true) held n 26 ((cs.drop 24).take (Tryz.prog.cellsOf 26)) = xs[8]? at g8
  change DataW.trod enc Tryz.prog W base (fun _ => true) held n 27 ((cs.drop 25).take (Tryz.prog.cellsOf 27)) = xs[9]? at g9
  rw [cb, List.getElem?_eq_getElem (show 0 < xs.length by omega)] at g0
  rw [ci, List.getElem?_eq_getElem (show 1 < xs.length by omega)] at g1
  rw [ci, List.getElem?_eq_getElem (show 2 < xs.length by omega)] at g2
  rw [ci, List.getElem?_eq_getElem (show 3 < xs.length by omega)] at g3
  rw [ca, List.getElem?_eq_getElem (show 4 < xs.length by omega)] at g4
  rw [cb, List.getElem?_eq_getElem (show 5 < xs.length by omega)] at g5
  rw [ci, List.getElem?_eq_getElem (show 6 < xs.length by omega)] at g6
  rw [ci, List.getElem?_eq_getElem (show 7 < xs.length by omega)] at g7
  rw [cl, List.getElem?_eq_getElem (show 8 < xs.length by omega)] at g8
  rw [cr, List.getElem?_eq_getElem (show 9 < xs.length by omega)] at g9
  obtain ⟨k0, h0, _⟩ := DataW.trod_bool Tryz.underlying4 g0
  obtain ⟨k1, h1, _, w1⟩ := DataW.trod_int Tryz.underlying3 g1
  obtain ⟨k2, h2, _, w2⟩ := DataW.trod_int Tryz.underlying3 g2
  obtain ⟨k3, h3, _, w3⟩ := DataW.trod_int Tryz.underlying3 g3
  obtain ⟨a, h4⟩ := ad_trod g4
  obtain ⟨k5, h5, _⟩ := DataW.trod_bool Tryz.underlying4 g5
  obtain ⟨k6, h6, _, w6⟩ := DataW.trod_int Tryz.underlying3 g6
  obtain ⟨k7, h7, _, w7⟩ := DataW.trod_int Tryz.underlying3 g7
  obtain ⟨sp, L, sc, h8, hA, i1, i2, i3⟩ := ads_trod g8
  obtain ⟨rp, R, rc, h9, hR, hRk, j1, j2, j3⟩ := rcs_trod g9
  simp only [Lit.wf, Bool.and_eq_true, decide_eq_true_eq] at w1 w2 w3 w6 w7
  refine ⟨⟨k0, k1, k2, k3, a, k5, k6, k7, L, R⟩, sp, rp, sc, rc, ?_, hA, hR, ⟨w1, w2, w3, w6, w7, hRk⟩, i3, j3, i1, i2, j1, j2⟩
  rw [take_split hl, h1, h2, h3, h4, h5, h6, h7, h8, h9]
  rw [List.drop_zero] at h0
  rw [h0]
  rfl
end
instance : DecidableEq Rc := fun a c => if h : a.kind = c.kind ∧ a.grp = c.grp ∧ a.src = c.src then .isTrue (by cases a; cases c; simp at h; obtain ⟨rfl, rfl, rfl⟩ := h; rfl) else .isFalse (fun e => h (by subst e; exact ⟨rfl, rfl, rfl⟩))
theorem take_snoc_eq {α : Type} {L M : List α} {j : Nat} (h : L.take j = M.take j) (h1 : j < L.length) (h2 : j < M.length) (e : L[j] = M[j]) : L.take (j + 1) = M.take (j + 1) := by
  rw [← List.take_append_getElem h1, ← List.take_append_getElem h2, h, e]
theorem ne_of_at {α : Type} {L M : List α} {j : Nat} (h1 : j < L.length) (h2 : j < M.length) (e : L[j] ≠ M[j]) : L ≠ M := fun h => by subst h; exact e rfl
section
variable {w : World} {p p' : Option Addr} {c c' : Nat} {L M : List Ad}
set_option maxHeartbeats 1000000 in
theorem sameAds_any (h : AdsAt w p L) (h' : AdsAt w p' M) : Gives Tryz.prog 69 #[.slice p L.length c, .slice p' M.length c'] w (.bool (decide (L = M))) := by
  have hl := h.1
  have hl' := h'.1
  have HA := Lib.hid h
  have HB := Lib.hid h'
  clear h h'
  refine Gives.of ?_
  have hH := Hp.refl w
  by_cases hlen : L.length = M.length
  rotate_left
  · have e : decide (L = M) = false := decide_eq_false (fun h => hlen (by rw [h]))
    rw [e]
    clear e
    have hn : ((L.length : Int) != (M.length : Int)) = true := by simp; omega
    go_enter Tryz.func69, Tryz.ntmps69
    go_wp2_with (refine st ?_; clear hH; first | intro W g hH | intro W hH)
    go_ret
    exact ⟨rfl, hH.below⟩
  have hn : ((L.length : Int) != (M.length : Int)) = false := by simp; omega
  obtain ⟨res, hres⟩ : ∃ r, decide (L = M) = r := ⟨_, rfl⟩
  rw [hres]
  have HRES := Lib.hid hres
  clear hres
  go_enter Tryz.func69, Tryz.ntmps69
  go_wp2_with (refine st ?_; clear hH; first | intro W g hH | intro W hH)
  go_loopw [5] (fun i wr => ∃ j : Nat, i = .int .i64 (j : Int) ∧ j ≤ L.length ∧ L.take j = M.take j ∧ Hp w.heap.size w wr []) (fun i _ => L.length - (intOf i).toNat)
  case atStart => exact ⟨0, rfl, by omega, rfl, hH⟩
  case round =>
    clear hH
    obtain ⟨j, rfl, hj, hT, hH⟩ := hrel
    by_cases hjl : j < L.length
    · have hj2 : j < M.length := by omega
      obtain ⟨a, ha, fA, _⟩ := HA.out.get hjl
      obtain ⟨b, hb, fB, _⟩ := HB.out.get hj2
      subst ha
      subst hb
      have dj : decide ((j : Int) < (L.length : Int)) = true := decide_eq_true (by omega)
      have HS := Lib.hid (fun e => take_snoc_eq hT hjl hj2 e)
      have HN := Lib.hid (fun e => HRES.out.symm.trans (decide_eq_false (p := L = M) (ne_of_at hjl hj2 e)))
      clear hT HA HB hn hlen
      have fE := ad_neq L[j] M[j]
      have oA := adL_ok L[j]
      have oB := adL_ok M[j]
      generalize L[j] = x at *
      generalize M[j] = y at *
      cases hxy : (x != y)
      · rw [hxy] at fE
        have hS := HS.out (by simpa using hxy)
        have HS2 := Lib.hid hS
        clear HS HN hxy hS
        generalize adL x = X at *
        generalize adL y = Y at *
        go_wp2_with (refine st ?_; clear hH; first | intro W g hH | intro W hH)
        ((with_reducible refine regQ hH (by kernel_rfl) (by kernel_rfl) ?_); intro hne; (repeat (first | (go_big_quiet_want; (first | (refine qiL tab_ok rfl rfl ?_; refine ⟨_, _, rfl, rfl, ?_⟩) | (refine qiLi tab_ok rfl rfl ?_; refine ⟨_, _, _, ?_, rfl, rfl, rfl, ?_, ?_⟩; rotate_left; (focus assumption)) | ((first | (refine qLoR tab_ok rfl rfl rfl rfl ?_; refine ⟨_, fA, ⟨oA, trivial⟩, rfl, ?_⟩) | (refine qLoR tab_ok rfl rfl rfl rfl ?_; refine ⟨_, fB, ⟨oB, trivial⟩, rfl, ?_⟩))) | (refine qBd tab_ok rfl rfl rfl rfl ?_; refine ⟨?_, ?_, ?_⟩; rotate_left; (focus (repeat (first | exact BR.nil | refine BR.one rfl rfl rfl ?_ | (refine BR.row rfl rfl rfl rfl ?_ ?_; (focus (repeat (first | exact trivial | assumption | exact OkA.z (by kernel_rfl) (by kernel_rfl) | refine ⟨rfl, ?_⟩ | refine ⟨?_, ?_⟩))))))))); (try simp only [Act.put, pA, pB, pC]); go_big_quiet_on) | go_big_quiet_step (fail))); refine wpQuiet_nil ?_; clear hne hH; intro W hH)
        go_wp2_with (refine st ?_; clear hH; first | intro W g hH | intro W hH)
        exact ⟨⟨j + 1, by simp, by omega, HS2.out, hH⟩, by simp [intOf]; omega⟩
      · rw [hxy] at fE
        have hS := HN.out (by simpa using hxy)
        subst hS
        clear HS HN hxy
        generalize adL x = X at *
        generalize adL y = Y at *
        go_wp2_with (refine st ?_; clear hH; first | intro W g hH | intro W hH)
        ((with_reducible refine regQ hH (by kernel_rfl) (by kernel_rfl) ?_); intro hne; (repeat (first | (go_big_quiet_want; (first | (refine qiL tab_ok rfl rfl ?_; refine ⟨_, _, rfl, rfl, ?_⟩) | (refine qiLi tab_ok rfl rfl ?_; refine ⟨_, _, _, ?_, rfl, rfl, rfl, ?_, ?_⟩; rotate_left; (focus assumption)) | ((first | (refine qLoR tab_ok rfl rfl rfl rfl ?_; refine ⟨_, fA, ⟨oA, trivial⟩, rfl, ?_⟩) | (refine qLoR tab_ok rfl rfl rfl rfl ?_; refine ⟨_, fB, ⟨oB, trivial⟩, rfl, ?_⟩))) | (refine qBd tab_ok rfl rfl rfl rfl ?_; refine ⟨?_, ?_, ?_⟩; rotate_left; (focus (repeat (first | exact BR.nil | refine BR.one rfl rfl rfl ?_ | (refine BR.row rfl rfl rfl rfl ?_ ?_; (focus (repeat (first | exact trivial | assumption | exact OkA.z (by kernel_rfl) (by kernel_rfl) | refine ⟨rfl, ?_⟩ | refine ⟨?_, ?_⟩))))))))); (try simp only [Act.put, pA, pB, pC]); go_big_quiet_on) | go_big_quiet_step (fail))); refine wpQuiet_nil ?_; clear hne hH; intro W hH)
        go_wp2_with (refine st ?_; clear hH; first | intro W g hH | intro W hH)
        go_ret
        exact ⟨rfl, hH.below⟩
    · have e : res = true := HRES.out.symm.trans (decide_eq_true (by rwa [List.take_of_length_le (by omega), List.take_of_length_le (by omega)] at hT))
      subst e
      have dj : decide ((j : Int) < (L.length : Int)) = false := decide_eq_false (by omega)
      clear hT HA HB hn
      go_wp2_with (refine st ?_; clear hH; first | intro W g hH | intro W hH)
      go_ret
      exact ⟨rfl, hH.below⟩
set_option maxHeartbeats 2000000 in
theorem sameRcs_any {R S : List Rc} (h : RcsAt w p R) (h' : RcsAt w p' S) : Gives Tryz.prog 70 #[.slice p R.length c, .slice p' S.length c'] w (.bool (decide (R = S))) := by
  have hl := h.1
  have hl' := h'.1
  have HA := Lib.hid h
  have HB := Lib.hid h'
  clear h h'
  refine Gives.of ?_
  have hH := Hp.refl w
  by_cases hlen : R.length = S.length
  rotate_left
  · have e : decide (R = S) = false := decide_eq_false (fun h => hlen (by rw [h]))
    rw [e]
    clear e
    have hn : ((R.length : Int) != (S.length : Int)) = true := by simp; omega
    go_enter Tryz.func70, Tryz.ntmps70
    go_wp2_with (refine st ?_; clear hH; first | intro W g hH | intro W hH)
    go_ret
    exact ⟨rfl, hH.below⟩
  have hn : ((R.length : Int) != (S.length : Int)) = false := by simp; omega
  obtain ⟨res, hres⟩ : ∃ r, decide (R = S) = r := ⟨_, rfl⟩
  rw [hres]
  have HRES := Lib.hid hres
  clear hres
  go_enter Tryz.func70, Tryz.ntmps70
  go_wp2_with (refine st ?_; clear hH; first | intro W g hH | intro W hH)
  go_loopw [5] (fun i wr => ∃ j : Nat, i = .int .i64 (j : Int) ∧ j ≤ R.length ∧ R.take j = S.take j ∧ Hp w.heap.size w wr []) (fun i _ => R.length - (intOf i).toNat)
  case atStart => exact ⟨0, rfl, by omega, rfl, hH⟩
  case round =>
    clear hH
    obtain ⟨j, rfl, hj, hT, hH⟩ := hrel
    by_cases hjl : j < R.length
    · have hj2 : j < S.length := by omega
      obtain ⟨a, s, c1, ha, fK, fG, fS, fA, _⟩ := HA.out.get hjl
      obtain ⟨b, s', c1', hb, fK', fG', fS', fA', _⟩ := HB.out.get hj2
      subst ha
      subst hb
      have dj : decide ((j : Int) < (R.length : Int)) = true := decide_eq_true (by omega)
      have HS := Lib.hid (fun e => take_snoc_eq hT hjl hj2 e)
      have HN := Lib.hid (fun e => HRES.out.symm.trans (decide_eq_false (p := R = S) (ne_of_at hjl hj2 e)))
      clear hT HA HB hn hlen
      generalize hr : R[j] = r at *
      generalize hs : S[j] = t at *
      clear hr hs
      obtain ⟨k, G, l⟩ := r
      obtain ⟨k', G', l'⟩ := t
      simp only at fK fG fS fA fK' fG' fS' fA'
      have fE := ad_neq G G'
      have fQ : ∀ W, Below w.heap.size w W → Gives Tryz.prog 69 #[.slice s l.length c1, .slice s' l'.length c1'] W (.bool (decide (l = l'))) := fun W hb => sameAds_any (fA.below hb) (fA'.below hb)
      have FQ := Lib.hid fQ
      have oA := adL_ok G
      have oB := adL_ok G'
      clear fA fA' fQ
      by_cases hk : k = k'
      rotate_left
      · have hS := HN.out (fun e => hk (congrArg Rc.kind e))
        subst hS
        clear HS HN FQ
        have dk : (k != k') = true := by simpa using hk
        generalize adL G = X at *
        generalize adL G' = Y at *
        go_wp2_with (refine st ?_; clear hH; first | intro W g hH | intro W hH)
        ((with_reducible refine regQ hH (by kernel_rfl) (by kernel_rfl) ?_); intro hne; (repeat (first | (go_big_quiet_want; (first | (refine qiL tab_ok rfl rfl ?_; refine ⟨_, _, rfl, rfl, ?_⟩) | (refine qiLi tab_ok rfl rfl ?_; refine ⟨_, _, _, ?_, rfl, rfl, rfl, ?_, ?_⟩; rotate_left; (focus assumption)) | ((first | (refine qLo tab_ok rfl rfl rfl rfl ?_; refine ⟨?_, ?_, ?_⟩; rotate_left; (focus (first | exact fK | exact fK'))))) | (refine qBd tab_ok rfl rfl rfl rfl ?_; refine ⟨?_, ?_, ?_⟩; rotate_left; (focus (repeat (first | exact BR.nil | refine BR.one rfl rfl rfl ?_ | (refine BR.row rfl rfl rfl rfl ?_ ?_; (focus (repeat (first | exact trivial | assumption | exact OkA.z (by kernel_rfl) (by kernel_rfl) | refine ⟨rfl, ?_⟩ | refine ⟨?_, ?_⟩))))))))); (try simp only [Act.put, pA, pB, pC]); go_big_quiet_on) | go_big_quiet_step (fail))); refine wpQuiet_nil ?_; clear hne hH; intro W hH)
        go_wp2_with (refine st ?_; clear hH; first | intro W g hH | intro W hH)
        go_ret
        exact ⟨rfl, hH.below⟩
      have dk : (k != k') = false := by simpa using hk
      by_cases hg : G = G'
      rotate_left
      · have hS := HN.out (fun e => hg (congrArg Rc.grp e))
        subst hS
        have hg2 : (G != G') = true := by simpa using hg
        rw [hg2] at fE
        clear HS HN FQ hg hg2
        generalize adL G = X at *
        generalize adL G' = Y at *
        go_wp2_with (refine st ?_; clear hH; first | intro W g hH | intro W hH)
        ((with_reducible refine regQ hH (by kernel_rfl) (by kernel_rfl) ?_); intro hne; (repeat (first | (go_big_quiet_want; (first | (refine qiL tab_ok rfl rfl ?_; refine ⟨_, _, rfl, rfl, ?_⟩) | (refine qiLi tab_ok rfl rfl ?_; refine ⟨_, _, _, ?_, rfl, rfl, rfl, ?_, ?_⟩; rotate_left; (focus assumption)) | ((first | (refine qLo tab_ok rfl rfl rfl rfl ?_; refine ⟨?_, ?_, ?_⟩; rotate_left; (focus (first | exact fK | exact fK'))) | (refine qLoR tab_ok rfl rfl rfl rfl ?_; refine ⟨_, fG, ⟨oA, trivial⟩, rfl, ?_⟩) | (refine qLoR tab_ok rfl rfl rfl rfl ?_; refine ⟨_, fG', ⟨oB, trivial⟩, rfl, ?_⟩))) | (refine qBd tab_ok rfl rfl rfl rfl ?_; refine ⟨?_, ?_, ?_⟩; rotate_left; (focus (repeat (first | exact BR.nil | refine BR.one rfl rfl rfl ?_ | (refine BR.row rfl rfl rfl rfl ?_ ?_; (focus (repeat (first | exact trivial | assumption | exact OkA.z (by kernel_rfl) (by kernel_rfl) | refine ⟨rfl, ?_⟩ | refine ⟨?_, ?_⟩))))))))); (try simp only [Act.put, pA, pB, pC]); go_big_quiet_on) | go_big_quiet_step (fail))); refine wpQuiet_nil ?_; clear hne hH; intro W hH)
        go_wp2_with (refine st ?_; clear hH; first | intro W g hH | intro W hH)
        go_ret
        exact ⟨rfl, hH.below⟩
      have hg2 : (G != G') = false := by simpa using hg
      rw [hg2] at fE
      by_cases hl2 : l = l'
      · have hS := Lib.hid (HS.out (by rw [hk, hg, hl2]))
        have e2 : decide (l = l') = true := decide_eq_true hl2
        rw [e2] at FQ
        clear HS HN hg hg2 e2 hl2
        generalize adL G = X at *
        generalize adL G' = Y at *
        generalize l.length = n at *
        generalize l'.length = n' at *
        go_wp2_with (refine st ?_; clear hH; first | intro W g hH | intro W hH)
        ((with_reducible refine regQ hH (by kernel_rfl) (by kernel_rfl) ?_); intro hne; (repeat (first | (go_big_quiet_want; (first | (refine qiL tab_ok rfl rfl ?_; refine ⟨_, _, rfl, rfl, ?_⟩) | (refine qiLi tab_ok rfl rfl ?_; refine ⟨_, _, _, ?_, rfl, rfl, rfl, ?_, ?_⟩; rotate_left; (focus assumption)) | ((first | (refine qLo tab_ok rfl rfl rfl rfl ?_; refine ⟨?_, ?_, ?_⟩; rotate_left; (focus (first | exact fK | exact fK' | exact fS | exact fS'))) | (refine qLoR tab_ok rfl rfl rfl rfl ?_; refine ⟨_, fG, ⟨oA, trivial⟩, rfl, ?_⟩) | (refine qLoR tab_ok rfl rfl rfl rfl ?_; refine ⟨_, fG', ⟨oB, trivial⟩, rfl, ?_⟩))) | (refine qBd tab_ok rfl rfl rfl rfl ?_; refine ⟨?_, ?_, ?_⟩; rotate_left; (focus (repeat (first | exact BR.nil | refine BR.one rfl rfl rfl ?_ | (refine BR.row rfl rfl rfl rfl ?_ ?_; (focus (repeat (first | exact trivial | assumption | exact OkA.z (by kernel_rfl) (by kernel_rfl) | refine ⟨rfl, ?_⟩ | refine ⟨?_, ?_⟩))))))))); (try simp only [Act.put, pA, pB, pC]); go_big_quiet_on) | go_big_quiet_step (((with_reducible apply callQ); first | (exact FQ.out _ (HW.hp _).below))))); refine wpQuiet_nil ?_; clear hne hH; intro W hH)
        go_wp2_with (refine st ?_; clear hH; first | intro W g hH | intro W hH)
        exact ⟨⟨j + 1, by simp, by omega, hS.out, hH⟩, by simp [intOf]; omega⟩
      · have hS := HN.out (fun e => hl2 (congrArg Rc.src e))
        subst hS
        have e2 : decide (l = l') = false := decide_eq_false hl2
        rw [e2] at FQ
        clear HS HN hg hg2 e2 hl2
        generalize adL G = X at *
        generalize adL G' = Y at *
        generalize l.length = n at *
        generalize l'.length = n' at *
        go_wp2_with (refine st ?_; clear hH; first | intro W g hH | intro W hH)
        ((with_reducible refine regQ hH (by kernel_rfl) (by kernel_rfl) ?_); intro hne; (repeat (first | (go_big_quiet_want; (first | (refine qiL tab_ok rfl rfl ?_; refine ⟨_, _, rfl, rfl, ?_⟩) | (refine qiLi tab_ok rfl rfl ?_; refine ⟨_, _, _, ?_, rfl, rfl, rfl, ?_, ?_⟩; rotate_left; (focus assumption)) | ((first | (refine qLo tab_ok rfl rfl rfl rfl ?_; refine ⟨?_, ?_, ?_⟩; rotate_left; (focus (first | exact fK | exact fK' | exact fS | exact fS'))) | (refine qLoR tab_ok rfl rfl rfl rfl ?_; refine ⟨_, fG, ⟨oA, trivial⟩, rfl, ?_⟩) | (refine qLoR tab_ok rfl rfl rfl rfl ?_; refine ⟨_, fG', ⟨oB, trivial⟩, rfl, ?_⟩))) | (refine qBd tab_ok rfl rfl rfl rfl ?_; refine ⟨?_, ?_, ?_⟩; rotate_left; (focus (repeat (first | exact BR.nil | refine BR.one rfl rfl rfl ?_ | (refine BR.row rfl rfl rfl rfl ?_ ?_; (focus (repeat (first | exact trivial | assumption | exact OkA.z (by kernel_rfl) (by kernel_rfl) | refine ⟨rfl, ?_⟩ | refine ⟨?_, ?_⟩))))))))); (try simp only [Act.put, pA, pB, pC]); go_big_quiet_on) | go_big_quiet_step (((with_reducible apply callQ); first | (exact FQ.out _ (HW.hp _).below))))); refine wpQuiet_nil ?_; clear hne hH; intro W hH)
        go_wp2_with (refine st ?_; clear hH; first | intro W g hH | intro W hH)
        go_ret
        exact ⟨rfl, hH.below⟩
    · have e : res = true := HRES.out.symm.trans (decide_eq_true (by rwa [List.take_of_length_le (by omega), List.take_of_length_le (by omega)] at hT))
      subst e
      have dj : decide ((j : Int) < (R.length : Int)) = false := decide_eq_false (by omega)
      clear hT HA HB hn
      go_wp2_with (refine st ?_; clear hH; first | intro W g hH | intro W hH)
      go_ret
      exact ⟨rfl, hH.below⟩
end
noncomputable def sameT (A B : Tk) : Bool := @decide (A = B) (Classical.propDecidable _)
theorem sameT_self (A : Tk) : sameT A A = true := by unfold sameT; exact @decide_eq_true _ (Classical.propDecidable _) rfl
theorem sameT_yes {A B : Tk} (h : A = B) : sameT A B = true := by subst h; exact sameT_self A
theorem sameT_no {A B : Tk} (h : A ≠ B) : sameT A B = false := by unfold sameT; exact @decide_eq_false _ (Classical.propDecidable _) h
theorem sameT_iff {A B : Tk} : sameT A B = true ↔ A = B := by
  refine ⟨fun h => ?_, sameT_yes⟩
  by_cases e : A = B
  · exact e
  · rw [sameT_no e] at h; cases h
section
variable {w : World} {sp rp sp' rp' : Option Addr} {sc rc sc' rc' : Nat}
set_option maxRecDepth 20000 in
set_option maxHeartbeats 4000000 in
theorem same_any {A B : Tk} (hS : AdsAt w sp A.src) (hR : RcsAt w rp A.recs) (hS' : AdsAt w sp' B.src) (hR' : RcsAt w rp' B.recs) : Gives Tryz.prog 30 #[.agg (fls (tkS A sp sc rp rc)).toArray, .agg (fls (tkS B sp' sc' rp' rc')).toArray] w (.bool (sameT A B)) := by
  have h1 := hS.1
  have h2 := hR.1
  have h3 := hS'.1
  have h4 := hR'.1
  have f1 := Lib.hid (show ∀ W, Below w.heap.size w W → Gives Tryz.prog 69 #[.slice sp A.src.length sc, .slice sp' B.src.length sc'] W (.bool (decide (A.src = B.src))) from fun W hb => sameAds_any (hS.below hb) (hS'.below hb))
  have f2 := Lib.hid (show ∀ W, Below w.heap.size w W → Gives Tryz.prog 70 #[.slice rp A.recs.length rc, .slice rp' B.recs.length rc'] W (.bool (decide (A.recs = B.recs))) from fun W hb => sameRcs_any (hR.below hb) (hR'.below hb))
  clear hS hR hS' hR'
  obtain ⟨res, hres⟩ : ∃ r, sameT A B = r := ⟨_, rfl⟩
  rw [hres]
  have HN := Lib.hid (show A ≠ B → res = false from fun h => hres ▸ sameT_no h)
  have HY := Lib.hid (show A = B → res = true from fun h => hres ▸ sameT_yes h)
  clear hres
  obtain ⟨v6, ver, kind, resp, g, quiet, rob, every, src, recs⟩ := A
  obtain ⟨v6', ver', kind', resp', g', quiet', rob', every', src', recs'⟩ := B
  simp only [tkS] at *
  have fE := ad_neq g g'
  have oG := adL_ok g
  have oG' := adL_ok g'
  refine Gives.of ?_
  have hH := Hp.refl w
  go_enter Tryz.func30, Tryz.ntmps30
  by_cases h_v6 : v6 = v6'
  rotate_left
  · have e : res = false := HN.out (fun e => h_v6 (congrArg Tk.v6 e))
    have d_v6 : (v6 != v6') = true := by simpa using h_v6
    subst e
    clear HN HY f1 f2 d_v6
    cases v6 <;> cases v6'
    · exact absurd rfl h_v6
    · clear h_v6
      go_wp2_with (refine st ?_; clear hH; first | intro W g hH | intro W hH)
      go_ret
      exact ⟨rfl, hH.below⟩
    · clear h_v6
      go_wp2_with (refine st ?_; clear hH; first | intro W g hH | intro W hH)
      go_ret
      exact ⟨rfl, hH.below⟩
    · exact absurd rfl h_v6
  subst h_v6
  by_cases h_ver : ver = ver'
  rotate_left
  · have e : res = false := HN.out (fun e => h_ver (congrArg Tk.ver e))
    have d_ver : (ver != ver') = true := by simpa using h_ver
    clear h_ver
    subst e
    clear HN HY f1 f2
    go_wp2_with (refine st ?_; clear hH; first | intro W g hH | intro W hH)
    all_goals
      go_ret
      exact ⟨rfl, hH.below⟩
  subst h_ver
  by_cases h_kind : kind = kind'
  rotate_left
  · have e : res = false := HN.out (fun e => h_kind (congrArg Tk.kind e))
    have d_kind : (kind != kind') = true := by simpa using h_kind
    clear h_kind
    subst e
    clear HN HY f1 f2
    go_wp2_with (refine st ?_; clear hH; first | intro W g hH | intro W hH)
    all_goals
      go_ret
      exact ⟨rfl, hH.below⟩
  subst h_kind
  by_cases h_resp : resp = resp'
  rotate_left
  · have e : res = false := HN.out (fun e => h_resp (congrArg Tk.resp e))
    have d_resp : (resp != resp') = true := by simpa using h_resp
    clear h_resp
    subst e
    clear HN HY f1 f2
    go_wp2_with (refine st ?_; clear hH; first | intro W g hH | intro W hH)
    all_goals
      go_ret
      exact ⟨rfl, hH.below⟩
  subst h_resp
  by_cases h_g : g = g'
  rotate_left
  · have e : res = false := HN.out (fun e => h_g (congrArg Tk.grp e))
    have d_g : (g != g') = true := by simpa using h_g
    rw [d_g] at fE
    clear h_g d_g
    generalize adL g = G at *
    generalize adL g' = G' at *
    subst e
    clear HN HY f1 f2
    go_wp2_with (refine st ?_; clear hH; first | intro W g hH | intro W hH)
    all_goals
      go_ret
      exact ⟨rfl, hH.below⟩
  subst h_g
  have d_g : (g != g) = false := by simp
  rw [d_g] at fE
  clear d_g
  generalize adL g = G at *
  by_cases h_quiet : quiet = quiet'
  rotate_left
  · have e : res = false := HN.out (fun e => h_quiet (congrArg Tk.quiet e))
    have d_quiet : (quiet != quiet') = true := by simpa using h_quiet
    subst e
    clear HN HY f1 f2 d_quiet
    cases quiet <;> cases quiet'
    · exact absurd rfl h_quiet
    · clear h_quiet
      go_wp2_with (refine st ?_; clear hH; first | intro W g hH | intro W hH)
      go_ret
      exact ⟨rfl, hH.below⟩
    · clear h_quiet
      go_wp2_with (refine st ?_; clear hH; first | intro W g hH | intro W hH)
      go_ret
      exact ⟨rfl, hH.below⟩
    · exact absurd rfl h_quiet
  subst h_quiet
  by_cases h_rob : rob = rob'
  rotate_left
  · have e : res = false := HN.out (fun e => h_rob (congrArg Tk.rob e))
    have d_rob : (rob != rob') = true := by simpa using h_rob
    clear h_rob
    subst e
    clear HN HY f1 f2
    go_wp2_with (refine st ?_; clear hH; first | intro W g hH | intro W hH)
    all_goals
      go_ret
      exact ⟨rfl, hH.below⟩
  subst h_rob
  by_cases h_every : every = every'
  rotate_left
  · have e : res = false := HN.out (fun e => h_every (congrArg Tk.every e))
    have d_every : (every != every') = true := by simpa using h_every
    clear h_every
    subst e
    clear HN HY f1 f2
    go_wp2_with (refine st ?_; clear hH; first | intro W g hH | intro W hH)
    all_goals
      go_ret
      exact ⟨rfl, hH.below⟩
  subst h_every
  by_cases hs : src = src'
  rotate_left
  · have e : res = false := HN.out (fun e => hs (congrArg Tk.src e))
    subst e
    have d : decide (src = src') = false := decide_eq_false hs
    rw [d] at f1
    clear HN HY f2 d hs
    generalize src.length = n at *
    generalize src'.length = n' at *
    go_wp2_with (first | (refine st ?_; clear hH; first | intro W g hH | intro W hH) | ((with_reducible refine callH hH ?_); refine ⟨?_, ?_, ?_⟩; rotate_left; (focus (first | (exact f1.out _ hH.below))); (clear hH; first | intro W g hH | intro W hH); ((try simp only [Act.put, pA, pB, pC]))))
    all_goals
      go_ret
      exact ⟨rfl, hH.below⟩
  have d : decide (src = src') = true := decide_eq_true hs
  rw [d] at f1
  by_cases hr : recs = recs'
  · have e : res = true := HY.out (by rw [hs, hr])
    subst e
    have d2 : decide (recs = recs') = true := decide_eq_true hr
    rw [d2] at f2
    clear HN HY d hs d2 hr
    generalize src.length = n at *
    generalize src'.length = n' at *
    generalize recs.length = m at *
    generalize recs'.length = m' at *
    go_wp2_with (first | (refine st ?_; clear hH; first | intro W g hH | intro W hH) | ((with_reducible refine callH hH ?_); refine ⟨?_, ?_, ?_⟩; rotate_left; (focus (first | (exact f1.out _ hH.below) | (exact f2.out _ hH.below))); (clear hH; first | intro W g hH | intro W hH); ((try simp only [Act.put, pA, pB, pC]))))
    all_goals
      go_ret
      exact ⟨rfl, hH.below⟩
  · have e : res = false := HN.out (fun e => hr (congrArg Tk.recs e))
    subst e
    have d2 : decide (recs = recs') = false := decide_eq_false hr
    rw [d2] at f2
    clear HN HY d hs d2 hr
    generalize src.length = n at *
    generalize src'.length = n' at *
    generalize recs.length = m at *
    generalize recs'.length = m' at *
    go_wp2_with (first | (refine st ?_; clear hH; first | intro W g hH | intro W hH) | ((with_reducible refine callH hH ?_); refine ⟨?_, ?_, ?_⟩; rotate_left; (focus (first | (exact f1.out _ hH.below) | (exact f2.out _ hH.below))); (clear hH; first | intro W g hH | intro W hH); ((try simp only [Act.put, pA, pB, pC]))))
    all_goals
      go_ret
      exact ⟨rfl, hH.below⟩
end
end Go.Proofs.YtdnehjhijmeihaaGreat
