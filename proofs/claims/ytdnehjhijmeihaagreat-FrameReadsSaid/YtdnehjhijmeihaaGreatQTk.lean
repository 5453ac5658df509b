/-
  Joined texts: Tk, Ts, Sm.
-/
import Derived.Test.YtdnehjhijmeihaaGreatQSl
import Derived.Test.YtdnehjhijmeihaaGreatQAddr
import Derived.Deep.Slices
namespace Go.Proofs.YtdnehjhijmeihaaGreat
open Go.ChangeShapes Go.WideShapes Go.ChangeAt Go.RowKit
set_option linter.unusedVariables false
set_option linter.unusedSimpArgs false
set_option maxRecDepth 20000
attribute [local irreducible] wpList

/-- an address, as data -/
structure Ad where
  v : Bool
  b : List UInt8
  h : b.length = 16
theorem Ad.ext2 {a c : Ad} (h1 : a.v = c.v) (h2 : a.b = c.b) : a = c := by cases a; cases c; simp at h1 h2; subst h1; subst h2; rfl
instance : DecidableEq Ad := fun a c => if h : a.v = c.v ∧ a.b = c.b then .isTrue (Ad.ext2 h.1 h.2) else .isFalse (fun e => h (by subst e; exact ⟨rfl, rfl⟩))
def Ad.z : Ad := ⟨false, zero16, rfl⟩
def Ad.z6 : Ad := ⟨true, zero16, rfl⟩
def adL (a : Ad) : List Value := addrL a.v a.b
theorem adL_len (a : Ad) : (adL a).length = 17 := addrL_length a.h
theorem adL_ok (a : Ad) : OkA (adL a) 17 := okA_addr a.h
theorem adL_z : adL Ad.z = zeroL Tryz.prog 25 := zaddr
theorem adL_0 (a : Ad) : CellA (adL a) 0 (.bool a.v) := rfl
theorem ad_eql (a c : Ad) (w : World) : (binOp .eql 25 (.agg (fls [.many (adL a) 17]).toArray) (.agg (fls [.many (adL c) 17]).toArray)).run Tryz.prog w = .ok (.bool (a == c)) w := by
  have h := addr_eql a.h c.h (v := a.v) (u := c.v) w
  unfold adL
  rw [addr_segs1, addr_segs1, h]
  congr 2
  rw [Bool.eq_iff_iff]
  simp only [Bool.and_eq_true, beq_iff_eq]
  exact ⟨fun h => Ad.ext2 h.1 h.2, fun h => by subst h; exact ⟨rfl, rfl⟩⟩
theorem ad_neq (a c : Ad) (w : World) : (binOp .neq 25 (.agg (fls [.many (adL a) 17]).toArray) (.agg (fls [.many (adL c) 17]).toArray)).run Tryz.prog w = .ok (.bool (a != c)) w := by
  have h := ad_eql a c w
  simp only [binOp, Sem.run_bind] at h ⊢
  simp [go_sem] at h ⊢
  cases hq : (Op.equal 25 (.agg (fls [.many (adL a) 17]).toArray) (.agg (fls [.many (adL c) 17]).toArray)).run Tryz.prog w with
  | ok b w' =>
    rw [hq] at h
    simp [go_sem] at h ⊢
    obtain ⟨h1, h2⟩ := h
    subst h2
    refine ⟨?_, rfl⟩
    cases b <;> simp_all
  | halt e w' => rw [hq] at h; simp [go_sem] at h
structure Rc where
  kind : Int
  grp : Ad
  src : List Ad
/-- a record in memory: its value, where its sources lie -/
structure Rv where
  r : Rc
  p : Option Addr
  c : Nat
def rvS (x : Rv) : List Seg := [.one (.int .i64 x.r.kind), .many (adL x.r.grp) 17, .one (.slice x.p x.r.src.length x.c)]
theorem rvS_ok (x : Rv) : okS (rvS x) := ⟨rfl, adL_ok _, rfl, trivial⟩
theorem rvS_len (x : Rv) : lenS (rvS x) = 19 := rfl
structure Tk where
  v6 : Bool
  ver : Int
  kind : Int
  resp : Int
  grp : Ad
  quiet : Bool
  rob : Int
  every : Int
  src : List Ad
  recs : List Rc
def tkS (T : Tk) (sp : Option Addr) (sc : Nat) (rp : Option Addr) (rc : Nat) : List Seg :=
  [.one (.bool T.v6), .one (.int .i64 T.ver), .one (.int .i64 T.kind), .one (.int .i64 T.resp), .many (adL T.grp) 17, .one (.bool T.quiet), .one (.int .i64 T.rob), .one (.int .i64 T.every), .one (.slice sp T.src.length sc), .one (.slice rp T.recs.length rc)]
def Tk.z : Tk := ⟨false, 0, 0, 0, Ad.z, false, 0, 0, [], []⟩
/-! ### in memory -/
def AdsAt (w : World) (p : Option Addr) (L : List Ad) : Prop := L.length ≤ 9223372036854775807 ∧ ∀ i (h : i < L.length), ∃ q, p = some q ∧ OldR w (q.add (i * 17)) (fls [.many (adL L[i]) 17])
def RcsAt (w : World) (p : Option Addr) (R : List Rc) : Prop := R.length ≤ 9223372036854775807 ∧ ∃ RR : List Rv, RR.map Rv.r = R ∧ ∀ i (h : i < RR.length), (∃ q, p = some q ∧ OldR w (q.add (i * 19)) (fls (rvS RR[i]))) ∧ AdsAt w RR[i].p RR[i].r.src
theorem AdsAt.below {w W : World} {p : Option Addr} {L : List Ad} (h : AdsAt w p L) (hb : Below w.heap.size w W) : AdsAt W p L :=
  ⟨h.1, fun i hi => by obtain ⟨q, h1, h2⟩ := h.2 i hi; exact ⟨q, h1, h2.below hb⟩⟩
theorem RcsAt.below {w W : World} {p : Option Addr} {R : List Rc} (h : RcsAt w p R) (hb : Below w.heap.size w W) : RcsAt W p R := by
  obtain ⟨h0, RR, h1, h2⟩ := h
  exact ⟨h0, RR, h1, fun i hi => ⟨by obtain ⟨q, h3, h4⟩ := (h2 i hi).1; exact ⟨q, h3, h4.below hb⟩, (h2 i hi).2.below hb⟩⟩
theorem AdsAt.get {w : World} {p : Option Addr} {L : List Ad} (h : AdsAt w p L) {j : Nat} (hj : j < L.length) : ∃ q, p = some q ∧ OldR w (q.add (j * 17)) (fls [.many (adL L[j]) 17]) ∧ OldC w (q.add (j * 17)) (.bool L[j].v) := by
  obtain ⟨q, h1, h2⟩ := h.2 j hj
  exact ⟨q, h1, h2, h2.cell0 rfl⟩
theorem OldR.partS {w : World} {q : Addr} {C A pre post : List Value} {k : Nat} (h : OldR w q C) (he : C = pre ++ (A ++ post)) (hk : pre.length = k + 1) : OldR w ⟨q.block, q.off + (k + 1), none⟩ A := by
  have := h.part he hk
  rwa [add_succ] at this
theorem RcsAt.get {w : World} {p : Option Addr} {R : List Rc} (h : RcsAt w p R) {j : Nat} (hj : j < R.length) : ∃ q s c, p = some q ∧ OldC w (q.add (j * 19)) (.int .i64 R[j].kind) ∧ OldR w ⟨(q.add (j * 19)).block, (q.add (j * 19)).off + 1, none⟩ (fls [.many (adL R[j].grp) 17]) ∧ OldC w ⟨(q.add (j * 19)).block, (q.add (j * 19)).off + 18, none⟩ (.slice s R[j].src.length c) ∧ AdsAt w s R[j].src ∧ OldR w (q.add (j * 19)) (fls [.one (.int .i64 R[j].kind), .many (adL R[j].grp) 17, .one (.slice s R[j].src.length c)]) := by
  obtain ⟨_, RR, rfl, h2⟩ := h
  have hj : j < RR.length := by simpa using hj
  obtain ⟨⟨q, h3, h4⟩, h5⟩ := h2 j hj
  simp only [List.getElem_map]
  refine ⟨q, RR[j].p, RR[j].c, h3, h4.cell0 rfl, ?_, ?_, h5, h4⟩
  · exact h4.partS (k := 0) (pre := [.int .i64 RR[j].r.kind]) (post := [.slice RR[j].p RR[j].r.src.length RR[j].c]) (by simp [rvS, fls]) rfl
  · refine h4.cellS (j := 17) ?_
    simp only [rvS, fls, List.getElem?_cons_succ]
    rw [List.getElem?_append_right (by rw [adL_len]; omega), adL_len]
    rfl
theorem AdsAt.nil {w : World} {p : Option Addr} : AdsAt w p [] := ⟨by simp, fun i h => by simp at h⟩
theorem RcsAt.nil {w : World} {p : Option Addr} : RcsAt w p [] := ⟨by simp, [], rfl, fun i h => by simp at h⟩
/-- a block of addresses | of records -/
def adsL (L : List Ad) : List Value := L.flatMap adL
def rvsL (R : List Rv) : List Value := R.flatMap fun x => fls (rvS x)
theorem adsL_len : ∀ L : List Ad, (adsL L).length = L.length * 17
  | [] => rfl
  | a :: L => by
    have := adsL_len L
    simp only [adsL, List.flatMap_cons, List.length_append, List.length_cons] at *
    rw [adL_len]
    omega
theorem adsL_snoc (L : List Ad) (a : Ad) : adsL (L ++ [a]) = adsL L ++ adL a := by simp [adsL]
theorem rvsL_len : ∀ R : List Rv, (rvsL R).length = R.length * 19
  | [] => rfl
  | x :: R => by
    have := rvsL_len R
    simp only [rvsL, List.flatMap_cons, List.length_append, List.length_cons] at *
    rw [okS_len (rvS_ok x), rvS_len]
    omega
theorem rvsL_snoc (R : List Rv) (x : Rv) : rvsL (R ++ [x]) = rvsL R ++ fls (rvS x) := by simp [rvsL]
theorem adsL_at {L : List Ad} {k : Nat} (hk : k < L.length) : AtL (adsL L) (k * 17) (fls [.many (adL L[k]) 17]) := by
  refine ⟨adsL (L.take k), adsL (L.drop (k + 1)), ?_, ?_⟩
  · rw [fls1]
    have : L = L.take k ++ (L[k] :: L.drop (k + 1)) := by rw [← List.drop_eq_getElem_cons hk, List.take_append_drop]
    have e : adsL L = adsL (L.take k ++ (L[k] :: L.drop (k + 1))) := congrArg adsL this
    rw [e]
    simp only [adsL, List.flatMap_append, List.flatMap_cons]
  · rw [adsL_len, List.length_take]; congr 1; omega
theorem rvsL_at {R : List Rv} {k : Nat} (hk : k < R.length) : AtL (rvsL R) (k * 19) (fls (rvS R[k])) := by
  refine ⟨rvsL (R.take k), rvsL (R.drop (k + 1)), ?_, ?_⟩
  · have : R = R.take k ++ (R[k] :: R.drop (k + 1)) := by rw [← List.drop_eq_getElem_cons hk, List.take_append_drop]
    have e : rvsL R = rvsL (R.take k ++ (R[k] :: R.drop (k + 1))) := congrArg rvsL this
    rw [e]
    simp only [rvsL, List.flatMap_append, List.flatMap_cons]
  · rw [rvsL_len, List.length_take]; congr 1; omega
theorem row_old {W : World} {g : Nat} {t : TypeId} {C A : List Value} {o : Nat} (hr : Row W g t C.toArray) (h : AtL C o A) : OldR W ((⟨g, 0, none⟩ : Addr).add o) A := by
  obtain ⟨pre, post, h1, h2⟩ := h
  refine OldR.part (pre := pre) (post := post) (C := C) ⟨fun j v hv => ?_, hr.lt⟩ h1 h2
  rw [show (⟨g, 0, none⟩ : Addr).add j = ⟨g, j, none⟩ by unfold Addr.add; split <;> simp_all, hr.cell, List.getElem?_toArray]
  exact hv
theorem AtL.app {C A R : List Value} {o : Nat} (h : AtL C o A) : AtL (C ++ R) o A := by
  obtain ⟨pre, post, h1, h2⟩ := h
  exact ⟨pre, post ++ R, by rw [h1]; simp, h2⟩
theorem adsAt_row {W : World} {g : Nat} {t : TypeId} {L : List Ad} {J : List Value} (hl : L.length ≤ 9223372036854775807) (hr : Row W g t (adsL L ++ J).toArray) : AdsAt W (some ⟨g, 0, none⟩) L :=
  ⟨hl, fun i hi => ⟨_, rfl, row_old hr (adsL_at hi).app⟩⟩
theorem rcsAt_row {W : World} {g : Nat} {t : TypeId} {R : List Rv} {J : List Value} (hl : R.length ≤ 9223372036854775807) (hr : Row W g t (rvsL R ++ J).toArray) (h : ∀ x ∈ R, AdsAt W x.p x.r.src) : RcsAt W (some ⟨g, 0, none⟩) (R.map Rv.r) :=
  ⟨by simpa using hl, R, rfl, fun i hi => ⟨⟨_, rfl, row_old hr (rvsL_at hi).app⟩, h _ (List.getElem_mem hi)⟩⟩
/-! ### arguments -/
def inI (n : Int) : Prop := -9223372036854775808 ≤ n ∧ n ≤ 9223372036854775807
structure Tk.Ok (T : Tk) : Prop where
  ver : inI T.ver
  kind : inI T.kind
  resp : inI T.resp
  rob : inI T.rob
  every : inI T.every
  recs : ∀ r ∈ T.recs, inI r.kind
section
variable {H : Type} {enc : TypeId × Value → H} {W : World} {base : Nat} {spare : Nat → Bool} {held : Bool} {fuel : Nat} {cs : List Value} {x : DataW H × List MemPlace}
end
end Go.Proofs.YtdnehjhijmeihaaGreat
namespace Go.Proofs.YtdnehjhijmeihaaGreat
-- %in
open Go.ChangeShapes Go.WideShapes Go.ChangeAt Go.RowKit
set_option linter.unusedVariables false
set_option linter.unusedSimpArgs false
set_option maxRecDepth 20000
attribute [local irreducible] wpList

instance : DecidableEq Rc := fun a c => if h : a.kind = c.kind ∧ a.grp = c.grp ∧ a.src = c.src then .isTrue (by cases a; cases c; simp at h; obtain ⟨rfl, rfl, rfl⟩ := h; rfl) else .isFalse (fun e => h (by subst e; exact ⟨rfl, rfl, rfl⟩))
theorem take_snoc_eq {α : Type} {L M : List α} {j : Nat} (h : L.take j = M.take j) (h1 : j < L.length) (h2 : j < M.length) (e : L[j] = M[j]) : L.take (j + 1) = M.take (j + 1) := by
  rw [← List.take_append_getElem h1, ← List.take_append_getElem h2, h, e]
theorem ne_of_at {α : Type} {L M : List α} {j : Nat} (h1 : j < L.length) (h2 : j < M.length) (e : L[j] ≠ M[j]) : L ≠ M := fun h => by subst h; exact e rfl
section
variable {w : World} {p p' : Option Addr} {c c' : Nat} {L M : List Ad}
set_option maxHeartbeats 1000000 in
theorem sameAds_any (h : AdsAt w p L) (h' : AdsAt w p' M) : Gives Tryz.prog 69 #[.slice p L.length c, .slice p' M.length c'] w (.bool (decide (L = M))) := by
  have hl := h.1
  have hl' := h'.1
  have HA := Lib.hid h
  have HB := Lib.hid h'
  clear h h'
  refine Gives.of ?_
  have hH := Hp.refl w
  by_cases hlen : L.length = M.length
  rotate_left
  · have e : decide (L = M) = false := decide_eq_false (fun h => hlen (by rw [h]))
    rw [e]
    clear e
    have hn : ((L.length : Int) != (M.length : Int)) = true := by simp; omega
    go_enter Tryz.func69, Tryz.ntmps69
    go_wp2_with (first | (refine st ?_; clear hH; (first | intro W g hH | intro W hH)))
    go_ret
    exact ⟨rfl, hH.below⟩
  have hn : ((L.length : Int) != (M.length : Int)) = false := by simp; omega
  obtain ⟨res, hres⟩ : ∃ r, decide (L = M) = r := ⟨_, rfl⟩
  rw [hres]
  have HRES := Lib.hid hres
  clear hres
  go_enter Tryz.func69, Tryz.ntmps69
  go_wp2_with (first | (refine st ?_; clear hH; (first | intro W g hH | intro W hH)))
  go_loopw [5] (fun i wr => ∃ j : Nat, i = .int .i64 (j : Int) ∧ j ≤ L.length ∧ L.take j = M.take j ∧ Hp w.heap.size w wr []) (fun i _ => L.length - (intOf i).toNat)
  case atStart => exact ⟨0, rfl, by omega, rfl, hH⟩
  case round =>
    clear hH
    obtain ⟨j, rfl, hj, hT, hH⟩ := hrel
    by_cases hjl : j < L.length
    · have hj2 : j < M.length := by omega
      obtain ⟨a, ha, fA, _⟩ := HA.out.get hjl
      obtain ⟨b, hb, fB, _⟩ := HB.out.get hj2
      subst ha
      subst hb
      have dj : decide ((j : Int) < (L.length : Int)) = true := decide_eq_true (by omega)
      have HS := Lib.hid (fun e => take_snoc_eq hT hjl hj2 e)
      have HN := Lib.hid (fun e => HRES.out.symm.trans (decide_eq_false (p := L = M) (ne_of_at hjl hj2 e)))
      clear hT HA HB hn hlen
      have fE := ad_neq L[j] M[j]
      have oA := adL_ok L[j]
      have oB := adL_ok M[j]
      generalize L[j] = x at *
      generalize M[j] = y at *
      cases hxy : (x != y)
      · rw [hxy] at fE
        have hS := HS.out (by simpa using hxy)
        have HS2 := Lib.hid hS
        clear HS HN hxy hS
        generalize adL x = X at *
        generalize adL y = Y at *
        go_wp2_with (first | (refine st ?_; clear hH; (first | intro W g hH | intro W hH)))
        ((with_reducible refine regQ hH (by kernel_rfl) (by kernel_rfl) ?_); intro hne; (repeat (first | (go_big_quiet_want; (first | (refine qiL tab_ok rfl rfl ?_; refine ⟨_, _, rfl, rfl, ?_⟩) | (refine qiLi tab_ok rfl rfl ?_; refine ⟨_, _, _, ?_, rfl, rfl, rfl, ?_, ?_⟩; rotate_left; (focus assumption)) | ((first | (refine qLoR tab_ok rfl rfl rfl rfl ?_; refine ⟨_, fA, ⟨oA, trivial⟩, rfl, ?_⟩) | (refine qLoR tab_ok rfl rfl rfl rfl ?_; refine ⟨_, fB, ⟨oB, trivial⟩, rfl, ?_⟩))) | (refine qBd tab_ok rfl rfl rfl rfl ?_; refine ⟨?_, ?_, ?_⟩; rotate_left; (focus (repeat (first | exact BR.nil | refine BR.one rfl rfl rfl ?_ | (refine BR.row rfl rfl rfl rfl ?_ ?_; (focus (repeat (first | exact trivial | assumption | exact OkA.z (by kernel_rfl) (by kernel_rfl) | refine ⟨rfl, ?_⟩ | refine ⟨?_, ?_⟩))))))))); (try simp only [Act.put, pA, pB, pC]); go_big_quiet_on) | go_big_quiet_step (fail))); refine wpQuiet_nil ?_; clear hne hH; intro W hH)
        go_wp2_with (first | (refine st ?_; clear hH; (first | intro W g hH | intro W hH)))
        exact ⟨⟨j + 1, by simp, by omega, HS2.out, hH⟩, by simp [intOf]; omega⟩
      · rw [hxy] at fE
        have hS := HN.out (by simpa using hxy)
        subst hS
        clear HS HN hxy
        generalize adL x = X at *
        generalize adL y = Y at *
        go_wp2_with (first | (refine st ?_; clear hH; (first | intro W g hH | intro W hH)))
        ((with_reducible refine regQ hH (by kernel_rfl) (by kernel_rfl) ?_); intro hne; (repeat (first | (go_big_quiet_want; (first | (refine qiL tab_ok rfl rfl ?_; refine ⟨_, _, rfl, rfl, ?_⟩) | (refine qiLi tab_ok rfl rfl ?_; refine ⟨_, _, _, ?_, rfl, rfl, rfl, ?_, ?_⟩; rotate_left; (focus assumption)) | ((first | (refine qLoR tab_ok rfl rfl rfl rfl ?_; refine ⟨_, fA, ⟨oA, trivial⟩, rfl, ?_⟩) | (refine qLoR tab_ok rfl rfl rfl rfl ?_; refine ⟨_, fB, ⟨oB, trivial⟩, rfl, ?_⟩))) | (refine qBd tab_ok rfl rfl rfl rfl ?_; refine ⟨?_, ?_, ?_⟩; rotate_left; (focus (repeat (first | exact BR.nil | refine BR.one rfl rfl rfl ?_ | (refine BR.row rfl rfl rfl rfl ?_ ?_; (focus (repeat (first | exact trivial | assumption | exact OkA.z (by kernel_rfl) (by kernel_rfl) | refine ⟨rfl, ?_⟩ | refine ⟨?_, ?_⟩))))))))); (try simp only [Act.put, pA, pB, pC]); go_big_quiet_on) | go_big_quiet_step (fail))); refine wpQuiet_nil ?_; clear hne hH; intro W hH)
        go_wp2_with (first | (refine st ?_; clear hH; (first | intro W g hH | intro W hH)))
        go_ret
        exact ⟨rfl, hH.below⟩
    · have e : res = true := HRES.out.symm.trans (decide_eq_true (by rwa [List.take_of_length_le (by omega), List.take_of_length_le (by omega)] at hT))
      subst e
      have dj : decide ((j : Int) < (L.length : Int)) = false := decide_eq_false (by omega)
      clear hT HA HB hn
      go_wp2_with (first | (refine st ?_; clear hH; (first | intro W g hH | intro W hH)))
      go_ret
      exact ⟨rfl, hH.below⟩
set_option maxHeartbeats 2000000 in
theorem sameRcs_any {R S : List Rc} (h : RcsAt w p R) (h' : RcsAt w p' S) : Gives Tryz.prog 70 #[.slice p R.length c, .slice p' S.length c'] w (.bool (decide (R = S))) := by
  have hl := h.1
  have hl' := h'.1
  have HA := Lib.hid h
  have HB := Lib.hid h'
  clear h h'
  refine Gives.of ?_
  have hH := Hp.refl w
  by_cases hlen : R.length = S.length
  rotate_left
  · have e : decide (R = S) = false := decide_eq_false (fun h => hlen (by rw [h]))
    rw [e]
    clear e
    have hn : ((R.length : Int) != (S.length : Int)) = true := by simp; omega
    go_enter Tryz.func70, Tryz.ntmps70
    go_wp2_with (first | (refine st ?_; clear hH; (first | intro W g hH | intro W hH)))
    go_ret
    exact ⟨rfl, hH.below⟩
  have hn : ((R.length : Int) != (S.length : Int)) = false := by simp; omega
  obtain ⟨res, hres⟩ : ∃ r, decide (R = S) = r := ⟨_, rfl⟩
  rw [hres]
  have HRES := Lib.hid hres
  clear hres
  go_enter Tryz.func70, Tryz.ntmps70
  go_wp2_with (first | (refine st ?_; clear hH; (first | intro W g hH | intro W hH)))
  go_loopw [5] (fun i wr => ∃ j : Nat, i = .int .i64 (j : Int) ∧ j ≤ R.length ∧ R.take j = S.take j ∧ Hp w.heap.size w wr []) (fun i _ => R.length - (intOf i).toNat)
  case atStart => exact ⟨0, rfl, by omega, rfl, hH⟩
  case round =>
    clear hH
    obtain ⟨j, rfl, hj, hT, hH⟩ := hrel
    by_cases hjl : j < R.length
    · have hj2 : j < S.length := by omega
      obtain ⟨a, s, c1, ha, fK, fG, fS, fA, _⟩ := HA.out.get hjl
      obtain ⟨b, s', c1', hb, fK', fG', fS', fA', _⟩ := HB.out.get hj2
      subst ha
      subst hb
      have dj : decide ((j : Int) < (R.length : Int)) = true := decide_eq_true (by omega)
      have HS := Lib.hid (fun e => take_snoc_eq hT hjl hj2 e)
      have HN := Lib.hid (fun e => HRES.out.symm.trans (decide_eq_false (p := R = S) (ne_of_at hjl hj2 e)))
      clear hT HA HB hn hlen
      generalize hr : R[j] = r at *
      generalize hs : S[j] = t at *
      clear hr hs
      obtain ⟨k, G, l⟩ := r
      obtain ⟨k', G', l'⟩ := t
      simp only at fK fG fS fA fK' fG' fS' fA'
      have fE := ad_neq G G'
      have fQ : ∀ W, Below w.heap.size w W → Gives Tryz.prog 69 #[.slice s l.length c1, .slice s' l'.length c1'] W (.bool (decide (l = l'))) := fun W hb => sameAds_any (fA.below hb) (fA'.below hb)
      have FQ := Lib.hid fQ
      have oA := adL_ok G
      have oB := adL_ok G'
      clear fA fA' fQ
      by_cases hk : k = k'
      rotate_left
      · have hS := HN.out (fun e => hk (congrArg Rc.kind e))
        subst hS
        clear HS HN FQ
        have dk : (k != k') = true := by simpa using hk
        generalize adL G = X at *
        generalize adL G' = Y at *
        go_wp2_with (first | (refine st ?_; clear hH; (first | intro W g hH | intro W hH)))
        ((with_reducible refine regQ hH (by kernel_rfl) (by kernel_rfl) ?_); intro hne; (repeat (first | (go_big_quiet_want; (first | (refine qiL tab_ok rfl rfl ?_; refine ⟨_, _, rfl, rfl, ?_⟩) | (refine qiLi tab_ok rfl rfl ?_; refine ⟨_, _, _, ?_, rfl, rfl, rfl, ?_, ?_⟩; rotate_left; (focus assumption)) | ((first | (refine qLo tab_ok rfl rfl rfl rfl ?_; refine ⟨?_, ?_, ?_⟩; rotate_left; (focus (first | exact fK | exact fK'))))) | (refine qBd tab_ok rfl rfl rfl rfl ?_; refine ⟨?_, ?_, ?_⟩; rotate_left; (focus (repeat (first | exact BR.nil | refine BR.one rfl rfl rfl ?_ | (refine BR.row rfl rfl rfl rfl ?_ ?_; (focus (repeat (first | exact trivial | assumption | exact OkA.z (by kernel_rfl) (by kernel_rfl) | refine ⟨rfl, ?_⟩ | refine ⟨?_, ?_⟩))))))))); (try simp only [Act.put, pA, pB, pC]); go_big_quiet_on) | go_big_quiet_step (fail))); refine wpQuiet_nil ?_; clear hne hH; intro W hH)
        go_wp2_with (first | (refine st ?_; clear hH; (first | intro W g hH | intro W hH)))
        go_ret
        exact ⟨rfl, hH.below⟩
      have dk : (k != k') = false := by simpa using hk
      by_cases hg : G = G'
      rotate_left
      · have hS := HN.out (fun e => hg (congrArg Rc.grp e))
        subst hS
        have hg2 : (G != G') = true := by simpa using hg
        rw [hg2] at fE
        clear HS HN FQ hg hg2
        generalize adL G = X at *
        generalize adL G' = Y at *
        go_wp2_with (first | (refine st ?_; clear hH; (first | intro W g hH | intro W hH)))
        ((with_reducible refine regQ hH (by kernel_rfl) (by kernel_rfl) ?_); intro hne; (repeat (first | (go_big_quiet_want; (first | (refine qiL tab_ok rfl rfl ?_; refine ⟨_, _, rfl, rfl, ?_⟩) | (refine qiLi tab_ok rfl rfl ?_; refine ⟨_, _, _, ?_, rfl, rfl, rfl, ?_, ?_⟩; rotate_left; (focus assumption)) | ((first | (refine qLo tab_ok rfl rfl rfl rfl ?_; refine ⟨?_, ?_, ?_⟩; rotate_left; (focus (first | exact fK | exact fK'))) | (refine qLoR tab_ok rfl rfl rfl rfl ?_; refine ⟨_, fG, ⟨oA, trivial⟩, rfl, ?_⟩) | (refine qLoR tab_ok rfl rfl rfl rfl ?_; refine ⟨_, fG', ⟨oB, trivial⟩, rfl, ?_⟩))) | (refine qBd tab_ok rfl rfl rfl rfl ?_; refine ⟨?_, ?_, ?_⟩; rotate_left; (focus (repeat (first | exact BR.nil | refine BR.one rfl rfl rfl ?_ | (refine BR.row rfl rfl rfl rfl ?_ ?_; (focus (repeat (first | exact trivial | assumption | exact OkA.z (by kernel_rfl) (by kernel_rfl) | refine ⟨rfl, ?_⟩ | refine ⟨?_, ?_⟩))))))))); (try simp only [Act.put, pA, pB, pC]); go_big_quiet_on) | go_big_quiet_step (fail))); refine wpQuiet_nil ?_; clear hne hH; intro W hH)
        go_wp2_with (first | (refine st ?_; clear hH; (first | intro W g hH | intro W hH)))
        go_ret
        exact ⟨rfl, hH.below⟩
      have hg2 : (G != G') = false := by simpa using hg
      rw [hg2] at fE
      by_cases hl2 : l = l'
      · have hS := Lib.hid (HS.out (by rw [hk, hg, hl2]))
        have e2 : decide (l = l') = true := decide_eq_true hl2
        rw [e2] at FQ
        clear HS HN hg hg2 e2 hl2
        generalize adL G = X at *
        generalize adL G' = Y at *
        generalize l.length = n at *
        generalize l'.length = n' at *
        go_wp2_with (first | (refine st ?_; clear hH; (first | intro W g hH | intro W hH)))
        ((with_reducible refine regQ hH (by kernel_rfl) (by kernel_rfl) ?_); intro hne; (repeat (first | (go_big_quiet_want; (first | (refine qiL tab_ok rfl rfl ?_; refine ⟨_, _, rfl, rfl, ?_⟩) | (refine qiLi tab_ok rfl rfl ?_; refine ⟨_, _, _, ?_, rfl, rfl, rfl, ?_, ?_⟩; rotate_left; (focus assumption)) | ((first | (refine qLo tab_ok rfl rfl rfl rfl ?_; refine ⟨?_, ?_, ?_⟩; rotate_left; (focus (first | exact fK | exact fK' | exact fS | exact fS'))) | (refine qLoR tab_ok rfl rfl rfl rfl ?_; refine ⟨_, fG, ⟨oA, trivial⟩, rfl, ?_⟩) | (refine qLoR tab_ok rfl rfl rfl rfl ?_; refine ⟨_, fG', ⟨oB, trivial⟩, rfl, ?_⟩))) | (refine qBd tab_ok rfl rfl rfl rfl ?_; refine ⟨?_, ?_, ?_⟩; rotate_left; (focus (repeat (first | exact BR.nil | refine BR.one rfl rfl rfl ?_ | (refine BR.row rfl rfl rfl rfl ?_ ?_; (focus (repeat (first | exact trivial | assumption | exact OkA.z (by kernel_rfl) (by kernel_rfl) | refine ⟨rfl, ?_⟩ | refine ⟨?_, ?_⟩))))))))); (try simp only [Act.put, pA, pB, pC]); go_big_quiet_on) | go_big_quiet_step (((with_reducible apply callQ); first | (exact FQ.out _ (HW.hp _).below))))); refine wpQuiet_nil ?_; clear hne hH; intro W hH)
        go_wp2_with (first | (refine st ?_; clear hH; (first | intro W g hH | intro W hH)))
        exact ⟨⟨j + 1, by simp, by omega, hS.out, hH⟩, by simp [intOf]; omega⟩
      · have hS := HN.out (fun e => hl2 (congrArg Rc.src e))
        subst hS
        have e2 : decide (l = l') = false := decide_eq_false hl2
        rw [e2] at FQ
        clear HS HN hg hg2 e2 hl2
        generalize adL G = X at *
        generalize adL G' = Y at *
        generalize l.length = n at *
        generalize l'.length = n' at *
        go_wp2_with (first | (refine st ?_; clear hH; (first | intro W g hH | intro W hH)))
        ((with_reducible refine regQ hH (by kernel_rfl) (by kernel_rfl) ?_); intro hne; (repeat (first | (go_big_quiet_want; (first | (refine qiL tab_ok rfl rfl ?_; refine ⟨_, _, rfl, rfl, ?_⟩) | (refine qiLi tab_ok rfl rfl ?_; refine ⟨_, _, _, ?_, rfl, rfl, rfl, ?_, ?_⟩; rotate_left; (focus assumption)) | ((first | (refine qLo tab_ok rfl rfl rfl rfl ?_; refine ⟨?_, ?_, ?_⟩; rotate_left; (focus (first | exact fK | exact fK' | exact fS | exact fS'))) | (refine qLoR tab_ok rfl rfl rfl rfl ?_; refine ⟨_, fG, ⟨oA, trivial⟩, rfl, ?_⟩) | (refine qLoR tab_ok rfl rfl rfl rfl ?_; refine ⟨_, fG', ⟨oB, trivial⟩, rfl, ?_⟩))) | (refine qBd tab_ok rfl rfl rfl rfl ?_; refine ⟨?_, ?_, ?_⟩; rotate_left; (focus (repeat (first | exact BR.nil | refine BR.one rfl rfl rfl ?_ | (refine BR.row rfl rfl rfl rfl ?_ ?_; (focus (repeat (first | exact trivial | assumption | exact OkA.z (by kernel_rfl) (by kernel_rfl) | refine ⟨rfl, ?_⟩ | refine ⟨?_, ?_⟩))))))))); (try simp only [Act.put, pA, pB, pC]); go_big_quiet_on) | go_big_quiet_step (((with_reducible apply callQ); first | (exact FQ.out _ (HW.hp _).below))))); refine wpQuiet_nil ?_; clear hne hH; intro W hH)
        go_wp2_with (first | (refine st ?_; clear hH; (first | intro W g hH | intro W hH)))
        go_ret
        exact ⟨rfl, hH.below⟩
    · have e : res = true := HRES.out.symm.trans (decide_eq_true (by rwa [List.take_of_length_le (by omega), List.take_of_length_le (by omega)] at hT))
      subst e
      have dj : decide ((j : Int) < (R.length : Int)) = false := decide_eq_false (by omega)
      clear hT HA HB hn
      go_wp2_with (first | (refine st ?_; clear hH; (first | intro W g hH | intro W hH)))
      go_ret
      exact ⟨rfl, hH.below⟩
end
end Go.Proofs.YtdnehjhijmeihaaGreat
namespace Go.Proofs.YtdnehjhijmeihaaGreat
-- %in
open Go.ChangeShapes Go.WideShapes Go.ChangeAt Go.RowKit
set_option linter.unusedVariables false
set_option linter.unusedSimpArgs false
set_option maxRecDepth 20000
attribute [local irreducible] wpList

noncomputable def sameT (A B : Tk) : Bool := @decide (A = B) (Classical.propDecidable _)
theorem sameT_self (A : Tk) : sameT A A = true := by unfold sameT; exact @decide_eq_true _ (Classical.propDecidable _) rfl
theorem sameT_yes {A B : Tk} (h : A = B) : sameT A B = true := by subst h; exact sameT_self A
theorem sameT_no {A B : Tk} (h : A ≠ B) : sameT A B = false := by unfold sameT; exact @decide_eq_false _ (Classical.propDecidable _) h
section
variable {w : World} {sp rp sp' rp' : Option Addr} {sc rc sc' rc' : Nat}
set_option maxRecDepth 20000 in
set_option maxHeartbeats 4000000 in
theorem same_any {A B : Tk} (hS : AdsAt w sp A.src) (hR : RcsAt w rp A.recs) (hS' : AdsAt w sp' B.src) (hR' : RcsAt w rp' B.recs) : Gives Tryz.prog 30 #[.agg (fls (tkS A sp sc rp rc)).toArray, .agg (fls (tkS B sp' sc' rp' rc')).toArray] w (.bool (sameT A B)) := by
  have h1 := hS.1
  have h2 := hR.1
  have h3 := hS'.1
  have h4 := hR'.1
  have f1 := Lib.hid (show ∀ W, Below w.heap.size w W → Gives Tryz.prog 69 #[.slice sp A.src.length sc, .slice sp' B.src.length sc'] W (.bool (decide (A.src = B.src))) from fun W hb => sameAds_any (hS.below hb) (hS'.below hb))
  have f2 := Lib.hid (show ∀ W, Below w.heap.size w W → Gives Tryz.prog 70 #[.slice rp A.recs.length rc, .slice rp' B.recs.length rc'] W (.bool (decide (A.recs = B.recs))) from fun W hb => sameRcs_any (hR.below hb) (hR'.below hb))
  clear hS hR hS' hR'
  obtain ⟨res, hres⟩ : ∃ r, sameT A B = r := ⟨_, rfl⟩
  rw [hres]
  have HN := Lib.hid (show A ≠ B → res = false from fun h => hres ▸ sameT_no h)
  have HY := Lib.hid (show A = B → res = true from fun h => hres ▸ sameT_yes h)
  clear hres
  obtain ⟨v6, ver, kind, resp, g, quiet, rob, every, src, recs⟩ := A
  obtain ⟨v6', ver', kind', resp', g', quiet', rob', every', src', recs'⟩ := B
  simp only [tkS] at *
  have fE := ad_neq g g'
  have oG := adL_ok g
  have oG' := adL_ok g'
  refine Gives.of ?_
  have hH := Hp.refl w
  go_enter Tryz.func30, Tryz.ntmps30
  by_cases h_v6 : v6 = v6'
  rotate_left
  · have e : res = false := HN.out (fun e => h_v6 (congrArg Tk.v6 e))
    have d_v6 : (v6 != v6') = true := by simpa using h_v6
    subst e
    clear HN HY f1 f2 d_v6
    cases v6 <;> cases v6'
    · exact absurd rfl h_v6
    · clear h_v6
      go_wp2_with (first | (refine st ?_; clear hH; (first | intro W g hH | intro W hH)))
      go_ret
      exact ⟨rfl, hH.below⟩
    · clear h_v6
      go_wp2_with (first | (refine st ?_; clear hH; (first | intro W g hH | intro W hH)))
      go_ret
      exact ⟨rfl, hH.below⟩
    · exact absurd rfl h_v6
  subst h_v6
  by_cases h_ver : ver = ver'
  rotate_left
  · have e : res = false := HN.out (fun e => h_ver (congrArg Tk.ver e))
    have d_ver : (ver != ver') = true := by simpa using h_ver
    clear h_ver
    subst e
    clear HN HY f1 f2
    go_wp2_with (first | (refine st ?_; clear hH; (first | intro W g hH | intro W hH)))
    all_goals
      go_ret
      exact ⟨rfl, hH.below⟩
  subst h_ver
  by_cases h_kind : kind = kind'
  rotate_left
  · have e : res = false := HN.out (fun e => h_kind (congrArg Tk.kind e))
    have d_kind : (kind != kind') = true := by simpa using h_kind
    clear h_kind
    subst e
    clear HN HY f1 f2
    go_wp2_with (first | (refine st ?_; clear hH; (first | intro W g hH | intro W hH)))
    all_goals
      go_ret
      exact ⟨rfl, hH.below⟩
  subst h_kind
  by_cases h_resp : resp = resp'
  rotate_left
  · have e : res = false := HN.out (fun e => h_resp (congrArg Tk.resp e))
    have d_resp : (resp != resp') = true := by simpa using h_resp
    clear h_resp
    subst e
    clear HN HY f1 f2
    go_wp2_with (first | (refine st ?_; clear hH; (first | intro W g hH | intro W hH)))
    all_goals
      go_ret
      exact ⟨rfl, hH.below⟩
  subst h_resp
  by_cases h_g : g = g'
  rotate_left
  · have e : res = false := HN.out (fun e => h_g (congrArg Tk.grp e))
    have d_g : (g != g') = true := by simpa using h_g
    rw [d_g] at fE
    clear h_g d_g
    generalize adL g = G at *
    generalize adL g' = G' at *
    subst e
    clear HN HY f1 f2
    go_wp2_with (first | (refine st ?_; clear hH; (first | intro W g hH | intro W hH)))
    all_goals
      go_ret
      exact ⟨rfl, hH.below⟩
  subst h_g
  have d_g : (g != g) = false := by simp
  rw [d_g] at fE
  clear d_g
  generalize adL g = G at *
  by_cases h_quiet : quiet = quiet'
  rotate_left
  · have e : res = false := HN.out (fun e => h_quiet (congrArg Tk.quiet e))
    have d_quiet : (quiet != quiet') = true := by simpa using h_quiet
    subst e
    clear HN HY f1 f2 d_quiet
    cases quiet <;> cases quiet'
    · exact absurd rfl h_quiet
    · clear h_quiet
      go_wp2_with (first | (refine st ?_; clear hH; (first | intro W g hH | intro W hH)))
      go_ret
      exact ⟨rfl, hH.below⟩
    · clear h_quiet
      go_wp2_with (first | (refine st ?_; clear hH; (first | intro W g hH | intro W hH)))
      go_ret
      exact ⟨rfl, hH.below⟩
    · exact absurd rfl h_quiet
  subst h_quiet
  by_cases h_rob : rob = rob'
  rotate_left
  · have e : res = false := HN.out (fun e => h_rob (congrArg Tk.rob e))
    have d_rob : (rob != rob') = true := by simpa using h_rob
    clear h_rob
    subst e
    clear HN HY f1 f2
    go_wp2_with (first | (refine st ?_; clear hH; (first | intro W g hH | intro W hH)))
    all_goals
      go_ret
      exact ⟨rfl, hH.below⟩
  subst h_rob
  by_cases h_every : every = every'
  rotate_left
  · have e : res = false := HN.out (fun e => h_every (congrArg Tk.every e))
    have d_every : (every != every') = true := by simpa using h_every
    clear h_every
    subst e
    clear HN HY f1 f2
    go_wp2_with (first | (refine st ?_; clear hH; (first | intro W g hH | intro W hH)))
    all_goals
      go_ret
      exact ⟨rfl, hH.below⟩
  subst h_every
  by_cases hs : src = src'
  rotate_left
  · have e : res = false := HN.out (fun e => hs (congrArg Tk.src e))
    subst e
    have d : decide (src = src') = false := decide_eq_false hs
    rw [d] at f1
    clear HN HY f2 d hs
    generalize src.length = n at *
    generalize src'.length = n' at *
    go_wp2_with (first | (refine st ?_; clear hH; (first | intro W g hH | intro W hH)) | ((with_reducible refine callH hH ?_); refine ⟨?_, ?_, ?_⟩; rotate_left; (focus (first | (exact f1.out _ hH.below))); clear hH; (first | intro W g hH | intro W hH); ((try simp only [Act.put, pA, pB, pC]))))
    all_goals
      go_ret
      exact ⟨rfl, hH.below⟩
  have d : decide (src = src') = true := decide_eq_true hs
  rw [d] at f1
  by_cases hr : recs = recs'
  · have e : res = true := HY.out (by rw [hs, hr])
    subst e
    have d2 : decide (recs = recs') = true := decide_eq_true hr
    rw [d2] at f2
    clear HN HY d hs d2 hr
    generalize src.length = n at *
    generalize src'.length = n' at *
    generalize recs.length = m at *
    generalize recs'.length = m' at *
    go_wp2_with (first | (refine st ?_; clear hH; (first | intro W g hH | intro W hH)) | ((with_reducible refine callH hH ?_); refine ⟨?_, ?_, ?_⟩; rotate_left; (focus (first | (exact f1.out _ hH.below) | (exact f2.out _ hH.below))); clear hH; (first | intro W g hH | intro W hH); ((try simp only [Act.put, pA, pB, pC]))))
    all_goals
      go_ret
      exact ⟨rfl, hH.below⟩
  · have e : res = false := HN.out (fun e => hr (congrArg Tk.recs e))
    subst e
    have d2 : decide (recs = recs') = false := decide_eq_false hr
    rw [d2] at f2
    clear HN HY d hs d2 hr
    generalize src.length = n at *
    generalize src'.length = n' at *
    generalize recs.length = m at *
    generalize recs'.length = m' at *
    go_wp2_with (first | (refine st ?_; clear hH; (first | intro W g hH | intro W hH)) | ((with_reducible refine callH hH ?_); refine ⟨?_, ?_, ?_⟩; rotate_left; (focus (first | (exact f1.out _ hH.below) | (exact f2.out _ hH.below))); clear hH; (first | intro W g hH | intro W hH); ((try simp only [Act.put, pA, pB, pC]))))
    all_goals
      go_ret
      exact ⟨rfl, hH.below⟩
end
end Go.Proofs.YtdnehjhijmeihaaGreat
