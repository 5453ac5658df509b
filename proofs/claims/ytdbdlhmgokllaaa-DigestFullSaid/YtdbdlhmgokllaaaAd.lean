/-
  Addresses: as data, and where they lie in memory (a part of XTk, for seats that know no talks).
-/
import Derived.Test.YtdbdlhmgokllaaaOld
import Derived.Test.YtdbdlhmgokllaaaAo
import Derived.Test.YtdbdlhmgokllaaaAg
import Derived.Deep.Slices
namespace Go.Proofs.Ytdbdlhmgokllaaa
open Go.ChangeShapes Go.WideShapes Go.ChangeAt Go.RowKit
set_option linter.unusedVariables false
set_option linter.unusedSimpArgs false
set_option maxRecDepth 20000
attribute [local irreducible] wpList

/-- an address, as data -/
structure Ad where
  v : Bool
  b : List UInt8
  h : b.length = 16
theorem Ad.ext2 {a c : Ad} (h1 : a.v = c.v) (h2 : a.b = c.b) : a = c := by cases a; cases c; simp at h1 h2; subst h1; subst h2; rfl
instance : DecidableEq Ad := fun a c => if h : a.v = c.v ∧ a.b = c.b then .isTrue (Ad.ext2 h.1 h.2) else .isFalse (fun e => h (by subst e; exact ⟨rfl, rfl⟩))
def Ad.z : Ad := ⟨false, zero16, rfl⟩
def adL (a : Ad) : List Value := addrL a.v a.b
theorem adL_len (a : Ad) : (adL a).length = 17 := addrL_length a.h
theorem adL_ok (a : Ad) : OkA (adL a) 17 := okA_addr a.h
theorem adL_0 (a : Ad) : CellA (adL a) 0 (.bool a.v) := rfl
theorem ad_eql (a c : Ad) (w : World) : (binOp .eql 25 (.agg (fls [.many (adL a) 17]).toArray) (.agg (fls [.many (adL c) 17]).toArray)).run Try.prog w = .ok (.bool (a == c)) w := by
  have h := addr_eql a.h c.h (v := a.v) (u := c.v) w
  unfold adL
  rw [addr_segs1, addr_segs1, h]
  congr 2
  rw [Bool.eq_iff_iff]
  simp only [Bool.and_eq_true, beq_iff_eq]
  exact ⟨fun h => Ad.ext2 h.1 h.2, fun h => by subst h; exact ⟨rfl, rfl⟩⟩
theorem ad_neq (a c : Ad) (w : World) : (binOp .neq 25 (.agg (fls [.many (adL a) 17]).toArray) (.agg (fls [.many (adL c) 17]).toArray)).run Try.prog w = .ok (.bool (a != c)) w := by
  have h := ad_eql a c w
  simp only [binOp, Sem.run_bind] at h ⊢
  simp [go_sem] at h ⊢
  cases hq : (Op.equal 25 (.agg (fls [.many (adL a) 17]).toArray) (.agg (fls [.many (adL c) 17]).toArray)).run Try.prog w with
  | ok b w' =>
    rw [hq] at h
    simp [go_sem] at h ⊢
    obtain ⟨h1, h2⟩ := h
    subst h2
    refine ⟨?_, rfl⟩
    cases b <;> simp_all
  | halt e w' => rw [hq] at h; simp [go_sem] at h
def AdsAt (w : World) (p : Option Addr) (L : List Ad) : Prop := L.length ≤ 9223372036854775807 ∧ ∀ i (h : i < L.length), ∃ q, p = some q ∧ OldR w (q.add (i * 17)) (fls [.many (adL L[i]) 17])
theorem AdsAt.below {w W : World} {p : Option Addr} {L : List Ad} (h : AdsAt w p L) (hb : Below w.heap.size w W) : AdsAt W p L :=
  ⟨h.1, fun i hi => by obtain ⟨q, h1, h2⟩ := h.2 i hi; exact ⟨q, h1, h2.below hb⟩⟩
theorem AdsAt.get {w : World} {p : Option Addr} {L : List Ad} (h : AdsAt w p L) {j : Nat} (hj : j < L.length) : ∃ q, p = some q ∧ OldR w (q.add (j * 17)) (fls [.many (adL L[j]) 17]) ∧ OldC w (q.add (j * 17)) (.bool L[j].v) := by
  obtain ⟨q, h1, h2⟩ := h.2 j hj
  exact ⟨q, h1, h2, h2.cell0 rfl⟩
theorem OldR.partS {w : World} {q : Addr} {C A pre post : List Value} {k : Nat} (h : OldR w q C) (he : C = pre ++ (A ++ post)) (hk : pre.length = k + 1) : OldR w ⟨q.block, q.off + (k + 1), none⟩ A := by
  have := h.part he hk
  rwa [add_succ] at this
theorem AdsAt.nil {w : World} {p : Option Addr} : AdsAt w p [] := ⟨by simp, fun i h => by simp at h⟩
def adsL (L : List Ad) : List Value := L.flatMap adL
theorem adsL_len : ∀ L : List Ad, (adsL L).length = L.length * 17
  | [] => rfl
  | a :: L => by
    have := adsL_len L
    simp only [adsL, List.flatMap_cons, List.length_append, List.length_cons] at *
    rw [adL_len]
    omega
theorem adsL_ok (L : List Ad) : OkA (adsL L) (L.length * 17) := ⟨adsL_len L, fun v hv => by obtain ⟨a, _, ha⟩ := List.mem_flatMap.1 hv; exact (adL_ok a).2 v ha⟩
theorem adsL_at {L : List Ad} {k : Nat} (hk : k < L.length) : AtL (adsL L) (k * 17) (fls [.many (adL L[k]) 17]) := by
  refine ⟨adsL (L.take k), adsL (L.drop (k + 1)), ?_, ?_⟩
  · rw [fls1]
    have : L = L.take k ++ (L[k] :: L.drop (k + 1)) := by rw [← List.drop_eq_getElem_cons hk, List.take_append_drop]
    have e : adsL L = adsL (L.take k ++ (L[k] :: L.drop (k + 1))) := congrArg adsL this
    rw [e]
    simp only [adsL, List.flatMap_append, List.flatMap_cons]
  · rw [adsL_len, List.length_take]; congr 1; omega
theorem row_old {W : World} {g : Nat} {t : TypeId} {C A : List Value} {o : Nat} (hr : Row W g t C.toArray) (h : AtL C o A) : OldR W ((⟨g, 0, none⟩ : Addr).add o) A := by
  obtain ⟨pre, post, h1, h2⟩ := h
  refine OldR.part (pre := pre) (post := post) (C := C) ⟨fun j v hv => ?_, hr.lt⟩ h1 h2
  rw [show (⟨g, 0, none⟩ : Addr).add j = ⟨g, j, none⟩ by unfold Addr.add; split <;> simp_all, hr.cell, List.getElem?_toArray]
  exact hv
theorem AtL.app {C A R : List Value} {o : Nat} (h : AtL C o A) : AtL (C ++ R) o A := by
  obtain ⟨pre, post, h1, h2⟩ := h
  exact ⟨pre, post ++ R, by rw [h1]; simp, h2⟩
theorem adsAt_row {W : World} {g : Nat} {t : TypeId} {L : List Ad} {J : List Value} (hl : L.length ≤ 9223372036854775807) (hr : Row W g t (adsL L ++ J).toArray) : AdsAt W (some ⟨g, 0, none⟩) L :=
  ⟨hl, fun i hi => ⟨_, rfl, row_old hr (adsL_at hi).app⟩⟩
section
variable {H : Type} {enc : TypeId × Value → H} {W : World} {base : Nat} {spare : Nat → Bool} {held : Bool} {fuel : Nat} {cs : List Value} {x : DataW H × List MemPlace}
end
end Go.Proofs.Ytdbdlhmgokllaaa
