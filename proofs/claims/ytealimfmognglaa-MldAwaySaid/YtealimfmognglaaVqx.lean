/-
  Vqx: Vq, Vx in one text.
-/
import Derived.Test.YtealimfmognglaaRd
import Derived.Test.YtealimfmognglaaTg
import Derived.Test.YtealimfmognglaaIn
import Derived.Test.YtealimfmognglaaVw
import Derived.Test.YtealimfmognglaaSm
import Derived.Test.YtealimfmognglaaTf
namespace Go.Proofs.Ytealimfmognglaa
-- %in
section
open Go.ChangeShapes Go.WideShapes Go.ChangeAt Go.RowKit
set_option linter.unusedVariables false
set_option linter.unusedSimpArgs false
set_option maxRecDepth 20000
attribute [local irreducible] wpList

/-- numbers of one byte in memory -/
def U8At (w : World) (q : Addr) (L : List Nat) : Prop := L.length ≤ 1000 ∧ ∀ j (h : j < L.length), OldC w (q.add j) (.int .u8 (L[j] : Int))
theorem U8At.below {w W : World} {q : Addr} {L : List Nat} (h : U8At w q L) (hb : Below w.heap.size w W) : U8At W q L := ⟨h.1, fun j hj => (h.2 j hj).below hb⟩
def idxU (L : List Nat) (x : Nat) : Int := match L.findIdx? (fun a => a == x) with
  | some i => (i : Int)
  | none => -1
theorem idxU_some {L : List Nat} {x j : Nat} (h : (L.take j).all (fun a => !(a == x)) = true) (hj : j < L.length) (hx : L[j] = x) : idxU L x = (j : Int) := by
  have : L.findIdx? (fun a => a == x) = some j := by
    rw [List.findIdx?_eq_some_iff_getElem]
    refine ⟨hj, by simp [hx], fun k hk => ?_⟩
    have hk2 : k < (L.take j).length := by rw [List.length_take]; omega
    have := List.all_eq_true.1 h _ (List.getElem_mem hk2)
    rw [List.getElem_take] at this
    simpa using this
  unfold idxU
  rw [this]
theorem idxU_none {L : List Nat} {x : Nat} (h : L.all (fun a => !(a == x)) = true) : idxU L x = -1 := by
  have : L.findIdx? (fun a => a == x) = none := by
    rw [List.findIdx?_eq_none_iff]
    intro a ha
    have := List.all_eq_true.1 h a ha
    simpa using this
  unfold idxU
  rw [this]
theorem idxU_iff {L : List Nat} {x : Nat} : decide (0 ≤ idxU L x) = L.contains x := by
  cases h : L.contains x
  · have : L.all (fun a => !(a == x)) = true := by
      rw [List.all_eq_true]
      intro a ha
      have hn : x ∉ L := by simpa using h
      have : a ≠ x := fun e => hn (e ▸ ha)
      simpa using this
    rw [idxU_none this]
    rfl
  · unfold idxU
    cases hf : L.findIdx? (fun a => a == x) with
    | some i => simp
    | none =>
      rw [List.findIdx?_eq_none_iff] at hf
      have hm : x ∈ L := by simpa using h
      have := hf x hm
      simp at this
section
variable {w : World} {q : Addr} {c x : Nat} {L : List Nat}
theorem uindex_any (h : U8At w q L) (hx : x < 256) : Gives Try.prog 82 #[.slice (some q) L.length c, .int .u8 (x : Int)] w (.int .i64 (idxU L x)) := by
  have hl := h.1
  have HA := Lib.hid h
  clear h
  obtain ⟨res, hres⟩ : ∃ r, idxU L x = r := ⟨_, rfl⟩
  rw [hres]
  have HR := Lib.hid hres
  clear hres
  refine Gives.of ?_
  have hH := Hp.refl w
  go_enter Try.func82, Try.ntmps82
  go_wp2_with (fail)
  go_loopw [5, 8] (fun _ i wr => ∃ j : Nat, i = .int .i64 (j : Int) ∧ j ≤ L.length ∧ (L.take j).all (fun a => !(a == x)) = true ∧ Hp w.heap.size w wr []) (fun _ i _ => L.length - (intOf i).toNat)
  case atStart => exact ⟨0, rfl, by omega, rfl, hH⟩
  case round =>
    clear hH
    obtain ⟨j, rfl, hj, hT, hH⟩ := hrel
    by_cases hjl : j < L.length
    · have fC := HA.out.2 j hjl
      have dj : decide ((j : Int) < (L.length : Int)) = true := decide_eq_true (by omega)
      have HS := Lib.hid (fun e => all_snoc hT hjl e)
      have HN := Lib.hid (fun e => HR.out.symm.trans (idxU_some hT hjl e))
      clear hT HA
      generalize L[j] = b at *
      by_cases hb : b = x
      · have e := HN.out hb
        subst e
        subst hb
        clear HS HN
        go_wp2_with (first | ((refine gL rfl ?_; refine hLo tab_ok rfl ?_ rfl hH rfl rfl ?_; (focus (first | exact wN rfl | exact rfl)); refine ⟨_, fC, ?_⟩; (clear hH; (first | intro W g hH | intro W hH); (try simp only [Act.put, pA, pB, pC])))))
        go_ret
        exact ⟨rfl, hH.below⟩
      · have db : ((x : Int) == (b : Int)) = false := by simp; omega
        have e := Lib.hid (HS.out (by simpa using hb))
        clear HS HN
        go_wp2_with (first | ((refine gL rfl ?_; refine hLo tab_ok rfl ?_ rfl hH rfl rfl ?_; (focus (first | exact wN rfl | exact rfl)); refine ⟨_, fC, ?_⟩; (clear hH; (first | intro W g hH | intro W hH); (try simp only [Act.put, pA, pB, pC])))))
        exact ⟨⟨j + 1, by simp, by omega, e.out, hH⟩, by simp [intOf]; omega⟩
    · have e : res = -1 := HR.out.symm.trans (idxU_none (by rwa [List.take_of_length_le (by omega)] at hT))
      subst e
      have dj : decide ((j : Int) < (L.length : Int)) = false := decide_eq_false (by omega)
      clear hT HA HR
      go_wp2_with (fail)
      go_ret
      exact ⟨rfl, hH.below⟩
theorem ucontains_any (h : U8At w q L) (hx : x < 256) : Gives Try.prog 50 #[.slice (some q) L.length c, .int .u8 (x : Int)] w (.bool (L.contains x)) := by
  have f1 := Lib.hid (show ∀ W, Below w.heap.size w W → Gives Try.prog 82 #[.slice (some q) L.length c, .int .u8 (x : Int)] W (.int .i64 (idxU L x)) from fun W hb => uindex_any (h.below hb) hx)
  have e := idxU_iff (L := L) (x := x)
  have hl := h.1
  generalize idxU L x = k at *
  generalize L.contains x = b at *
  clear h
  refine Gives.of ?_
  have hH := Hp.refl w
  go_enter Try.func50, Try.ntmps50
  go_wp2_with (first | ((first | ((with_reducible refine callH hH ?_); refine ⟨?_, ?_, ?_⟩; rotate_left; (focus (first | (exact f1.out _ hH.below))))); clear hH; (first | intro W g hH | intro W hH); ((try simp only [Act.put, pA, pB, pC]))))
  go_ret
  exact ⟨by simp [e], hH.below⟩
end
section
variable {w : World} {s : ByteArray}
theorem isB_get {s : ByteArray} {k : Nat} (h : k < s.size) : s[k].toNat = numAt s k 1 := by
  have hl : k < s.data.toList.length := by rw [size_toList]; exact h
  unfold numAt
  rw [List.drop_eq_getElem_cons hl, List.take_succ_cons, List.take_zero]
  show (s.data[k]).toNat = _
  rw [← Array.getElem_toList]
  simp [numL]
def isF (s : ByteArray) : Bool := decide (0 < s.size) && [130, 131, 132, 143].contains (numAt s 0 1)
theorem vIs_any : Gives Try.prog 18 #[.string s] w (.bool (isF s)) := by
  refine Gives.of ?_
  have hH := Hp.refl w
  unfold isF
  by_cases hz : s.size = 0
  · have e : s = ⟨#[]⟩ := by
      have := size_toList s
      rw [hz] at this
      have : s = ByteArray.empty := by simpa using this
      exact this
    subst e
    go_enter Try.func18, Try.ntmps18
    go_wp2_with (fail)
    go_ret
    exact ⟨rfl, hH.below⟩
  · have hne2 := notEmpty (d := s) (by omega)
    have hp : decide (0 < s.size) = true := decide_eq_true (by omega)
    rw [hp, Bool.true_and]
    have i0 : ∀ W, (Instr.index 9 (.string s) (.int .i64 0)).run Try.prog W = .ok (.int .u8 (numAt s 0 1 : Int)) W := fun W => by
      rw [run_idx Try.underlying9 s 0 (by omega) 0 rfl W, isB_get (by omega)]
    have hx : numAt s 0 1 < 256 := numAt_lt s 0 1
    have hc : ∀ (W : World) (g c : Nat), Row W g 5 (fls [.one (.int .u8 130), .one (.int .u8 131), .one (.int .u8 132), .one (.int .u8 143)]).toArray → Gives Try.prog 50 #[.slice (some ⟨g, 0, none⟩) 4 c, .int .u8 (numAt s 0 1 : Int)] W (.bool ([130, 131, 132, 143].contains (numAt s 0 1))) := fun W g c hr => by
      refine ucontains_any (L := [130, 131, 132, 143]) ⟨by simp, fun j hj => ?_⟩ hx
      have hj : j < 4 := hj
      have e : (⟨g, 0, none⟩ : Addr).add j = ⟨g, j, none⟩ := by unfold Addr.add; split <;> simp_all
      rw [e]
      refine ⟨?_, hr.lt⟩
      rw [hr.cell]
      match j, hj with
      | 0, _ => rfl
      | 1, _ => rfl
      | 2, _ => rfl
      | 3, _ => rfl
    generalize numAt s 0 1 = x at *
    generalize [130, 131, 132, 143].contains x = b at *
    clear hz hp
    go_enter Try.func18, Try.ntmps18
    go_wp2_with (first | ((go_at_call 50; refine callR 0 hH rfl (fun hr => hc _ _ _ hr) ?_; (clear hH; (first | intro W g hH | intro W hH); (try simp only [Act.put, pA, pB, pC])))) | ((refine hSl tab_ok rfl ?_ rfl tabs_ok rfl rfl rfl rfl rfl hH ?_; (focus (first | exact wN rfl | exact rfl)); refine ⟨?_, ?_, ?_⟩; rotate_left; (focus (repeat (first | exact BR.nil | refine BR.one rfl rfl rfl ?_ | (refine BR.row rfl rfl rfl rfl ?_ ?_; (focus (repeat (first | exact trivial | assumption | exact OkA.z (by kernel_rfl) (by kernel_rfl) | refine ⟨rfl, ?_⟩ | refine ⟨?_, ?_⟩))))))); clear hH; intro W g hH; (try simp only [Act.put, pA, pB, pC]))))
    go_ret
    exact ⟨rfl, hH.below⟩
end
end
section
open Go.ChangeShapes Go.WideShapes Go.ChangeAt Go.RowKit
set_option linter.unusedVariables false
set_option linter.unusedSimpArgs false
set_option maxRecDepth 20000
attribute [local irreducible] wpList

theorem own : ownKnob Try.prog.godebug = none := by kernel_rfl
instance subAppL {A B D : HB} [k : SubI A D] : SubI (A ++ B) D := ⟨k.h.l⟩
instance subAppR {A B D : HB} [k : SubI B D] : SubI (A ++ B) D := ⟨k.h.r⟩
def six6 (a b : UInt8) : Ad := ⟨true, [a, 2, 0, 0, 0, 0, 0, 0, 0, 0, 0, 0, 0, 0, 0, b], rfl⟩
section
variable {H0 : Type} {enc : TypeId × Value → H0} {W : World} {base : Nat} {held : Bool}
theorem ad_open {v : Value} {d : DataW H0} {p : List MemPlace} {base' : Nat} (g : Value.okWide Try.prog W .any base' 24 v) (h : DataW.Trod enc Try.prog W base (fun _ => true) held 24 v d p) :
    ∃ a : Ad, v = .agg (fls [.many (adL a) 17]).toArray := by
  obtain ⟨cs, rfl, hc⟩ := open_agg_struct (ts := 4 :: List.replicate 16 5) Try.underlying24 (by kernel_rfl) (by kernel_rfl) g
  obtain ⟨fuel0, hf0⟩ := h
  have hf0 : DataW.trod enc Try.prog W base (fun _ => true) held fuel0 24 cs = some (d, p) := by simpa [Value.cells] using hf0
  obtain ⟨a, rfl⟩ := ad_trod hf0
  exact ⟨a, by rw [fls1]⟩
end
section
variable {w : World} {s : ByteArray} {f t : Ad}
theorem six_any (a b : UInt8) : Gives Try.prog 15 #[.int .u8 (a.toNat : Int), .int .u8 (b.toNat : Int)] w (.agg (fls [.many (adL (six6 a b)) 17]).toArray) := by
  have e : fls [.many (adL (six6 a b)) 17] = fls [.one (.bool true), .one (.int .u8 (a.toNat : Int)), .one (.int .u8 2), .one (.int .u8 0), .one (.int .u8 0), .one (.int .u8 0), .one (.int .u8 0), .one (.int .u8 0), .one (.int .u8 0), .one (.int .u8 0), .one (.int .u8 0), .one (.int .u8 0), .one (.int .u8 0), .one (.int .u8 0), .one (.int .u8 0), .one (.int .u8 0), .one (.int .u8 (b.toNat : Int))] := rfl
  rw [e]
  clear e
  have ha := a.toNat_lt
  have hb := b.toNat_lt
  generalize (a.toNat : Int) = x at *
  generalize (b.toNat : Int) = y at *
  refine Gives.of ?_
  have hH := Hp.refl w
  go_enter Try.func15, Try.ntmps15
  go_wp2_with (first | ((first | (refine iSR tab_ok rfl ?_ rfl hH ?_; (focus (first | exact wN rfl | exact rfl)); refine ⟨_, _, _, _, rfl, rfl, rfl, rfl, rfl, ?_, ?_⟩; (focus (repeat (first | exact trivial | assumption | exact OkA.z (by kernel_rfl) (by kernel_rfl) | refine ⟨rfl, ?_⟩ | refine ⟨?_, ?_⟩)))) | (refine hAl tab_ok rfl ?_ hH rfl ?_; (focus (first | exact wN rfl | exact rfl))) | (refine hBd tab_ok rfl ?_ rfl rfl rfl hH ?_; (focus (first | exact wN rfl | exact rfl)); refine ⟨?_, ?_, ?_⟩; rotate_left; (focus (repeat (first | exact BR.nil | refine BR.one rfl rfl rfl ?_ | (refine BR.row rfl rfl rfl rfl ?_ ?_; (focus (repeat (first | exact trivial | assumption | exact OkA.z (by kernel_rfl) (by kernel_rfl) | refine ⟨rfl, ?_⟩ | refine ⟨?_, ?_⟩))))))))); clear hH; (first | intro W g hH | intro W hH); ((try simp only [Act.put, pA, pB, pC]))))
  (refine iRet Try.results15 tab_ok rfl rfl hH ?_; refine ⟨_, _, rfl, rfl, rfl, ?_⟩)
  exact ⟨rfl, hH.below⟩
theorem hVRead {B : Nat} {w0 W : World} {H : HB} {Q : Ending → World → Prop} (hs : s.size ≤ 100000) (hv : (f.v && t.v) = true) (hH : Hp B w0 W H) (hQ : ∀ W' sp sc rp rc D, Hid (TkIn D sp rp (rReadF f t s).1) → Hid (∀ r ∈ D, r.2.2.1 = true) → Hp B w0 W' (H ++ D) → Q (.returned (.tuple #[.agg (fls (tkS (rReadF f t s).1 sp sc rp rc)).toArray, .int .i64 (rReadF f t s).2])) W') : Calls Try.prog 11 #[.string s, .agg (fls [.many (adL f) 17]).toArray, .agg (fls [.many (adL t) 17]).toArray] W Q := by
  have h := vread_any (w := W) (f := f) (t := t) hs
  rw [readF_is hv] at h
  exact h.mono fun _ _ ⟨sp, sc, rp, rc, D, he, hm, hr⟩ => by subst he; exact hQ _ sp sc rp rc D (Lib.hid hr) (Lib.hid hm.2) (hH.join hm)
theorem hVReadNo {B : Nat} {w0 W : World} {H : HB} {Q : Ending → World → Prop} (hv : (f.v && t.v) = false) (hH : Hp B w0 W H) (hQ : ∀ W' sp sc rp rc D, Hid (TkIn D sp rp Tk.z) → Hid (∀ r ∈ D, r.2.2.1 = true) → Hp B w0 W' (H ++ D) → Q (.returned (.tuple #[.agg (fls (tkS Tk.z sp sc rp rc)).toArray, .int .i64 1])) W') : Calls Try.prog 11 #[.string s, .agg (fls [.many (adL f) 17]).toArray, .agg (fls [.many (adL t) 17]).toArray] W Q :=
  (vread_six hv).mono fun _ _ ⟨sp, sc, rp, rc, D, he, hm, hr⟩ => by subst he; exact hQ _ sp sc rp rc D (Lib.hid hr) (Lib.hid hm.2) (hH.join hm)
theorem hRRead {B : Nat} {w0 W : World} {H : HB} {Q : Ending → World → Prop} (hs : s.size ≤ 100000) (hH : Hp B w0 W H) (hQ : ∀ W' sp sc rp rc D, Hid (TkIn D sp rp (rReadF f t s).1) → Hid (∀ r ∈ D, r.2.2.1 = true) → Hp B w0 W' (H ++ D) → Q (.returned (.tuple #[.agg (fls (tkS (rReadF f t s).1 sp sc rp rc)).toArray, .int .i64 (rReadF f t s).2])) W') : Calls Try.prog 12 #[.string s, .agg (fls [.many (adL f) 17]).toArray, .agg (fls [.many (adL t) 17]).toArray] W Q :=
  (rread_any hs).mono fun _ _ ⟨sp, sc, rp, rc, D, he, hm, hr⟩ => by subst he; exact hQ _ sp sc rp rc D (Lib.hid hr) (Lib.hid hm.2) (hH.join hm)
noncomputable def liveT : Tk := ⟨true, 1, 2, 0, six6 255 5, false, 0, 0, [], []⟩
theorem liveT_good : good6 liveT = true := by
  have h : grp6 (six6 255 5) = true := by decide
  unfold good6 liveT
  simp [h]
theorem write_is {T : Tk} (h : good6 T = true) : isF (writeT f t T) = true ∧ (writeT f t T).size = 4 + (restL T).length := by
  have hz := write_size (f := f) (t := t) (T := T)
  refine ⟨?_, hz⟩
  have hs : (writeT f t T).data.toList = [] ++ (putL (kindN T) 1 ++ (putL 0 1 ++ (putL (sumN f t T) 2 ++ restL T))) := by rw [write_list]; unfold headL; simp only [List.append_assoc, List.nil_append]
  have n0 : numAt (writeT f t T) 0 1 = kindN T := numAt_mid hs rfl (by have := kindN_lt T; omega)
  unfold isF
  rw [n0, decide_eq_true (show 0 < (writeT f t T).size by omega), Bool.true_and]
  unfold kindN
  split
  · rfl
  · split
    · split <;> rfl
    · rfl
set_option maxHeartbeats 2000000 in
theorem lives09 : Gives Try.prog 9 #[] w (.bool true) := by
  refine Gives.of ?_
  have hH := Hp.refl w
  have s1 : ∀ w, Gives Try.prog 15 #[.int .u8 255, .int .u8 5] w (.agg (fls [.many (adL (six6 255 5)) 17]).toArray) := fun w => six_any 255 5
  have s2 : ∀ w, Gives Try.prog 15 #[.int .u8 254, .int .u8 1] w (.agg (fls [.many (adL (six6 254 1)) 17]).toArray) := fun w => six_any 254 1
  obtain ⟨hi, hz⟩ := write_is (f := six6 254 1) (t := six6 255 5) liveT_good
  have hl : (restL liveT).length = 20 := by
    have := v6_len (a := six6 255 5) rfl
    simp [restL, liveT, putL_length, this]
  rw [hl] at hz
  have hb := back_all (f := six6 254 1) (t := six6 255 5) liveT_good
  have hw : wrV (six6 254 1) (six6 255 5) liveT = (writeT (six6 254 1) (six6 255 5) liveT, 0) := by
    unfold wrV
    rw [if_neg (by decide), if_pos liveT_good]
  have hwr : ∀ W, Gives Try.prog 16 #[.agg (fls [.one (.bool true), .one (.int .i64 1), .one (.int .i64 2), .one (.int .i64 0), .many (adL (six6 255 5)) 17, .one (.bool false), .one (.int .i64 0), .one (.int .i64 0), .one (.slice none 0 0), .one (.slice none 0 0)]).toArray, .agg (fls [.many (adL (six6 254 1)) 17]).toArray, .agg (fls [.many (adL (six6 255 5)) 17]).toArray] W (.tuple #[.string (writeT (six6 254 1) (six6 255 5) liveT), .int .i64 0]) := fun W => by
    have h := vWrite_any (w := W) (f := six6 254 1) (t := six6 255 5) (T := liveT) (sp := none) (sc := 0) (rp := none) (rc := 0) AdsAt.nil RcsAt.nil
    rw [hw] at h
    exact h
  have HRD := Lib.hid (show ∀ (W : World) (H : HB) (Q : Ending → World → Prop), Hp w.heap.size w W H → (∀ W' sp sc rp rc D, Hid (TkIn D sp rp liveT) → Hid (∀ r ∈ D, r.2.2.1 = true) → Hp w.heap.size w W' (H ++ D) → Q (.returned (.tuple #[.agg (fls [.one (.bool true), .one (.int .i64 1), .one (.int .i64 2), .one (.int .i64 0), .many (adL (six6 255 5)) 17, .one (.bool false), .one (.int .i64 0), .one (.int .i64 0), .one (.slice sp 0 sc), .one (.slice rp 0 rc)]).toArray, .int .i64 0])) W') → Calls Try.prog 11 #[.string (writeT (six6 254 1) (six6 255 5) liveT), .agg (fls [.many (adL (six6 254 1)) 17]).toArray, .agg (fls [.many (adL (six6 255 5)) 17]).toArray] W Q from fun W H Q hH hQ => by
    refine hVRead (by omega) rfl hH ?_
    rw [hb]
    intro W' sp sc rp rc D h1 h2 h3
    exact hQ W' sp sc rp rc D h1 h2 h3)
  have HSM := Lib.hid (show ∀ (W : World) (H : HB) sp sc rp rc D, Hid (TkIn D sp rp liveT) → SubH H D → Hp w.heap.size w W H → Gives Try.prog 13 #[.agg (fls [.one (.bool true), .one (.int .i64 1), .one (.int .i64 2), .one (.int .i64 0), .many (adL (six6 255 5)) 17, .one (.bool false), .one (.int .i64 0), .one (.int .i64 0), .one (.slice none 0 0), .one (.slice none 0 0)]).toArray, .agg (fls [.one (.bool true), .one (.int .i64 1), .one (.int .i64 2), .one (.int .i64 0), .many (adL (six6 255 5)) 17, .one (.bool false), .one (.int .i64 0), .one (.int .i64 0), .one (.slice sp 0 sc), .one (.slice rp 0 rc)]).toArray] W (.bool true) from fun W H sp sc rp rc D hD hs hH => by
    have h := hD.out _ _ _ (hH.sub hs)
    have := same_any (A := liveT) (B := liveT) (sp := none) (rp := none) (sc := 0) (rc := 0) (sc' := sc) (rc' := rc) AdsAt.nil RcsAt.nil h.1 h.2
    rw [sameT_self] at this
    exact this)
  have his : ∀ w, Gives Try.prog 18 #[.string (writeT (six6 254 1) (six6 255 5) liveT)] w (.bool true) := fun w => by
    have h := vIs_any (s := writeT (six6 254 1) (six6 255 5) liveT) (w := w)
    rwa [hi] at h
  have d24 : (((writeT (six6 254 1) (six6 255 5) liveT).size : Int) == 24) = true := by rw [hz]; rfl
  clear hi hz hl hb hw
  have oA := adL_ok (six6 255 5)
  have oB := adL_ok (six6 254 1)
  generalize writeT (six6 254 1) (six6 255 5) liveT = S at *
  generalize adL (six6 255 5) = A at *
  generalize adL (six6 254 1) = A2 at *
  go_enter Try.func9, Try.ntmps9
  go_wp2_with (first | ((first | (refine iSR tab_ok rfl ?_ rfl hH ?_; (focus (first | exact wN rfl | exact rfl)); refine ⟨_, _, _, _, rfl, rfl, rfl, rfl, rfl, ?_, ?_⟩; (focus (repeat (first | exact trivial | assumption | exact OkA.z (by kernel_rfl) (by kernel_rfl) | refine ⟨rfl, ?_⟩ | refine ⟨?_, ?_⟩)))) | (refine hAl tab_ok rfl ?_ hH rfl ?_; (focus (first | exact wN rfl | exact rfl))) | (refine hBd tab_ok rfl ?_ rfl rfl rfl hH ?_; (focus (first | exact wN rfl | exact rfl)); refine ⟨?_, ?_, ?_⟩; rotate_left; (focus (repeat (first | exact BR.nil | refine BR.one rfl rfl rfl ?_ | (refine BR.row rfl rfl rfl rfl ?_ ?_; (focus (repeat (first | exact trivial | assumption | exact OkA.z (by kernel_rfl) (by kernel_rfl) | refine ⟨rfl, ?_⟩ | refine ⟨?_, ?_⟩)))))))) | ((with_reducible refine callH hH ?_); refine ⟨?_, ?_, ?_⟩; rotate_left; (focus (first | (with_reducible exact s1 _))))); clear hH; (first | intro W g hH | intro W hH); ((try simp only [Act.put, pA, pB, pC]))))
  ((with_reducible refine regQ hH (by kernel_rfl) (by kernel_rfl) ?_); intro hne; (repeat (first | (go_big_quiet_want; (first | (refine qiL tab_ok rfl rfl ?_; refine ⟨_, _, rfl, rfl, ?_⟩)); (try simp only [Act.put, pA, pB, pC]); go_big_quiet_on) | go_big_quiet_step (((with_reducible apply callQ); first | (with_reducible exact s1 _) | (with_reducible exact s2 _) | (with_reducible exact hwr _))))); refine wpQuiet_nil ?_; clear hne hH; intro W hH)
  go_wp2_with (first | ((go_at_call 11; with_reducible refine HRD.out _ _ _ hH ?_; (clear hH; intro W spn scn rpn rcn Dn hTn hDn hH); (try simp only [List.cons_append, List.nil_append, List.append_assoc] at hH); ((try simp only [Act.put, pA, pB, pC])))) | ((first | (refine iL tab_ok rfl ?_ rfl hH ?_; (focus (first | exact wN rfl | exact rfl)); refine ⟨_, _, rfl, rfl, ?_⟩) | (refine iSR tab_ok rfl ?_ rfl hH ?_; (focus (first | exact wN rfl | exact rfl)); refine ⟨_, _, _, _, rfl, rfl, rfl, rfl, rfl, ?_, ?_⟩; (focus (repeat (first | exact trivial | assumption | exact OkA.z (by kernel_rfl) (by kernel_rfl) | refine ⟨rfl, ?_⟩ | refine ⟨?_, ?_⟩)))) | (refine hAl tab_ok rfl ?_ hH rfl ?_; (focus (first | exact wN rfl | exact rfl))) | ((with_reducible refine callH hH ?_); refine ⟨?_, ?_, ?_⟩; rotate_left; (focus (first | (with_reducible exact s1 _) | (with_reducible exact s2 _) | (with_reducible exact his _) | ((refine HSM.out _ _ _ _ _ _ ?_ ?_ ?_ hH; rotate_left; (focus assumption); exact SubI.h)))))); clear hH; (first | intro W g hH | intro W hH); ((try simp only [Act.put, pA, pB, pC]))))
  go_ret
  exact ⟨rfl, hH.below⟩
end
end
end Go.Proofs.Ytealimfmognglaa
