/-
  Joined texts: Sg, Tab, Rd, Hk, M3.
-/
import Derived.Test.YtdnehjhijmeihaaGreatQBig
import Derived.Test.YtdnehjhijmeihaaGreatRows
import Derived.Test.YtdnehjhijmeihaaGreatQMem
namespace Go.Proofs.YtdnehjhijmeihaaGreat
open Go.ChangeShapes Go.WideShapes Go.ChangeAt Go.RowKit
set_option linter.unusedVariables false
set_option linter.unusedSimpArgs false
inductive Seg where
  | one (v : Value)
  | many (A : List Value) (n : Nat)
def fls : List Seg → List Value
  | [] => []
  | .one v :: S => v :: fls S
  | .many A _ :: S => A ++ fls S
theorem fls1 {A : List Value} {n : Nat} : fls [.many A n] = A := by simp [fls]
def OkA (A : List Value) (n : Nat) : Prop := A.length = n ∧ ∀ v ∈ A, v.oneCell' = true
def okS : List Seg → Prop
  | [] => True
  | .one v :: S => v.oneCell' = true ∧ okS S
  | .many A n :: S => OkA A n ∧ okS S
def lenS : List Seg → Nat
  | [] => 0
  | .one _ :: S => lenS S + 1
  | .many _ n :: S => n + lenS S
def one1 : Value → Option Value
  | .int k n => some (.int k n)
  | .bool b => some (.bool b)
  | .string s => some (.string s)
  | .pointer p => some (.pointer p)
  | .slice p n c => some (.slice p n c)
  | .func f a b => some (.func f a b)
  | _ => none
theorem one1_ok {u v : Value} (h : one1 u = some v) : u = v ∧ v.oneCell' = true := by
  cases u <;> simp [one1] at h <;> (subst h; exact ⟨rfl, rfl⟩)
def cellS : List Seg → Nat → Option Value
  | [], _ => none
  | .one v :: S, k => match k with
    | 0 => some v
    | k + 1 => cellS S k
  | .many _ n :: S, k => match Nat.ble n k with
    | true => cellS S (k - n)
    | false => none
def intoS : List Seg → Nat → Option (List Value × Nat)
  | [], _ => none
  | .one _ :: S, k => match k with
    | 0 => none
    | k + 1 => intoS S k
  | .many A n :: S, k => match Nat.ble n k with
    | true => intoS S (k - n)
    | false => some (A, k)
def setS : List Seg → Nat → Value → Option (List Seg)
  | [], _, _ => none
  | .one x :: S, k, v => match k with
    | 0 => some (.one v :: S)
    | k + 1 => match setS S k v with
      | some S' => some (.one x :: S')
      | none => none
  | .many A n :: S, k, v => match Nat.ble n k with
    | true => match setS S (k - n) v with
      | some S' => some (.many A n :: S')
      | none => none
    | false => none
def takeS : List Seg → Nat → Option (List Seg)
  | [], n => match n with
    | 0 => some []
    | _ + 1 => none
  | .one v :: S, n => match n with
    | 0 => some []
    | n + 1 => match takeS S n with
      | some S' => some (.one v :: S')
      | none => none
  | .many A m :: S, n => match n with
    | 0 => some []
    | n + 1 => match Nat.ble m (n + 1) with
      | true => match takeS S (n + 1 - m) with
        | some S' => some (.many A m :: S')
        | none => none
      | false => none
def dropS : List Seg → Nat → Option (List Seg)
  | [], n => match n with
    | 0 => some []
    | _ + 1 => none
  | .one v :: S, n => match n with
    | 0 => some (.one v :: S)
    | n + 1 => dropS S n
  | .many A m :: S, n => match n with
    | 0 => some (.many A m :: S)
    | n + 1 => match Nat.ble m (n + 1) with
      | true => dropS S (n + 1 - m)
      | false => none
def partS (S : List Seg) (k n : Nat) : Option (List Seg) := match dropS S k with
  | some S' => takeS S' n
  | none => none
def conS : List Seg → List Seg → Option (List Seg)
  | [], R => some R
  | s :: T, R => match conS T R with
    | some r => some (s :: r)
    | none => none
def splS : List Seg → Nat → Nat → List Seg → Option (List Seg)
  | [], k, n, T => match k with
    | 0 => match dropS [] n with
      | some R => conS T R
      | none => none
    | _ + 1 => none
  | .one v :: S, k, n, T => match k with
    | 0 => match dropS (.one v :: S) n with
      | some R => conS T R
      | none => none
    | k + 1 => match splS S k n T with
      | some S' => some (.one v :: S')
      | none => none
  | .many A m :: S, k, n, T => match k with
    | 0 => match dropS (.many A m :: S) n with
      | some R => conS T R
      | none => none
    | k + 1 => match Nat.ble m (k + 1) with
      | true => match splS S (k + 1 - m) n T with
        | some S' => some (.many A m :: S')
        | none => none
      | false => none
section
variable {S S' T R : List Seg} {k n j : Nat} {v : Value} {A : List Value}
theorem okS_len : ∀ {S : List Seg}, okS S → (fls S).length = lenS S
  | [], _ => rfl
  | .one v :: S, h => by simp [fls, lenS, okS_len h.2]
  | .many A n :: S, h => by simp [fls, lenS, okS_len h.2, h.1.1]
theorem okS_one : ∀ {S : List Seg}, okS S → ∀ v ∈ fls S, v.oneCell' = true
  | [], _ => fun v h => by simp [fls] at h
  | .one x :: S, h => fun v hv => by
    rcases List.mem_cons.1 hv with rfl | hv
    · exact h.1
    · exact okS_one h.2 v hv
  | .many A n :: S, h => fun v hv => by
    rcases List.mem_append.1 hv with hv | hv
    · exact h.1.2 v hv
    · exact okS_one h.2 v hv
theorem cellS_ok : ∀ {S : List Seg} {k : Nat}, okS S → cellS S k = some v → (fls S)[k]? = some v
  | [], k, _, h => by simp [cellS] at h
  | .one x :: S, 0, _, h => by simpa [cellS, fls] using h
  | .one x :: S, k + 1, hS, h => by
    have := cellS_ok hS.2 (k := k) (by simpa [cellS] using h)
    simpa [fls] using this
  | .many A n :: S, k, hS, h => by
    unfold cellS at h
    cases hb : Nat.ble n k with
    | false => rw [hb] at h; simp at h
    | true =>
      rw [hb] at h
      have hle := Nat.le_of_ble_eq_true hb
      have hA := hS.1.1
      rw [fls, List.getElem?_append_right (by omega), hA]
      exact cellS_ok hS.2 h
theorem intoS_ok : ∀ {S : List Seg} {k : Nat}, okS S → intoS S k = some (A, j) → A[j]? = some v → (fls S)[k]? = some v
  | [], k, _, h, _ => by simp [intoS] at h
  | .one x :: S, 0, _, h, _ => by simp [intoS] at h
  | .one x :: S, k + 1, hS, h, hv => by
    have := intoS_ok hS.2 (k := k) (by simpa [intoS] using h) hv
    simpa [fls] using this
  | .many A n :: S, k, hS, h, hv => by
    unfold intoS at h
    cases hb : Nat.ble n k with
    | false =>
      rw [hb] at h
      simp at h
      obtain ⟨rfl, rfl⟩ := h
      rw [fls, List.getElem?_append_left (List.getElem?_eq_some_iff.1 hv).1]
      exact hv
    | true =>
      rw [hb] at h
      have hle := Nat.le_of_ble_eq_true hb
      have hA := hS.1.1
      rw [fls, List.getElem?_append_right (by omega), hA]
      exact intoS_ok hS.2 h hv
theorem setS_ok : ∀ {S S' : List Seg} {k : Nat}, okS S → v.oneCell' = true → setS S k v = some S' → k < (fls S).length ∧ (fls S).set k v = fls S' ∧ okS S'
  | [], S', k, _, _, h => by simp [setS] at h
  | .one x :: S, S', 0, hS, hv, h => by
    simp [setS] at h
    subst h
    exact ⟨by simp [fls], rfl, hv, hS.2⟩
  | .one x :: S, S', k + 1, hS, hv, h => by
    unfold setS at h
    simp only at h
    cases hs : setS S k v with
    | none => rw [hs] at h; simp at h
    | some S1 =>
      rw [hs] at h
      simp at h
      subst h
      obtain ⟨h1, h2, h3⟩ := setS_ok hS.2 hv hs
      exact ⟨by simp [fls]; omega, by simp [fls, h2], hS.1, h3⟩
  | .many A n :: S, S', k, hS, hv, h => by
    unfold setS at h
    cases hb : Nat.ble n k with
    | false => rw [hb] at h; simp at h
    | true =>
      rw [hb] at h
      simp only at h
      have hle := Nat.le_of_ble_eq_true hb
      have hA := hS.1.1
      cases hs : setS S (k - n) v with
      | none => rw [hs] at h; simp at h
      | some S1 =>
        rw [hs] at h
        simp at h
        subst h
        obtain ⟨h1, h2, h3⟩ := setS_ok hS.2 hv hs
        exact ⟨by simp [fls]; omega, by rw [fls, List.set_append_right _ _ (by omega), hA, h2]; rfl, hS.1, h3⟩
theorem takeS_ok : ∀ {S S' : List Seg} {n : Nat}, okS S → takeS S n = some S' → okS S' ∧ ∃ post, fls S = fls S' ++ post ∧ (fls S').length = n
  | [], S', 0, _, h => by simp [takeS] at h; subst h; exact ⟨trivial, [], rfl, rfl⟩
  | [], S', n + 1, _, h => by simp [takeS] at h
  | .one x :: S, S', 0, _, h => by simp [takeS] at h; subst h; exact ⟨trivial, _, rfl, rfl⟩
  | .one x :: S, S', n + 1, hS, h => by
    unfold takeS at h
    simp only at h
    cases hs : takeS S n with
    | none => rw [hs] at h; simp at h
    | some S1 =>
      rw [hs] at h
      simp at h
      subst h
      obtain ⟨h1, post, h2, h3⟩ := takeS_ok hS.2 hs
      exact ⟨⟨hS.1, h1⟩, post, by simp [fls, h2], by simp [fls, h3]⟩
  | .many A m :: S, S', 0, _, h => by simp [takeS] at h; subst h; exact ⟨trivial, _, rfl, rfl⟩
  | .many A m :: S, S', n + 1, hS, h => by
    unfold takeS at h
    simp only at h
    cases hb : Nat.ble m (n + 1) with
    | false => rw [hb] at h; simp at h
    | true =>
      rw [hb] at h
      simp only at h
      have hle := Nat.le_of_ble_eq_true hb
      have hA := hS.1.1
      cases hs : takeS S (n + 1 - m) with
      | none => rw [hs] at h; simp at h
      | some S1 =>
        rw [hs] at h
        simp at h
        subst h
        obtain ⟨h1, post, h2, h3⟩ := takeS_ok hS.2 hs
        exact ⟨⟨hS.1, h1⟩, post, by simp [fls, h2], by simp [fls, h3]; omega⟩
theorem dropS_ok : ∀ {S S' : List Seg} {n : Nat}, okS S → dropS S n = some S' → okS S' ∧ ∃ pre, fls S = pre ++ fls S' ∧ pre.length = n
  | [], S', 0, _, h => by simp [dropS] at h; subst h; exact ⟨trivial, [], rfl, rfl⟩
  | [], S', n + 1, _, h => by simp [dropS] at h
  | .one x :: S, S', 0, hS, h => by simp [dropS] at h; subst h; exact ⟨hS, [], rfl, rfl⟩
  | .one x :: S, S', n + 1, hS, h => by
    obtain ⟨h1, pre, h2, h3⟩ := dropS_ok hS.2 (n := n) (by simpa [dropS] using h)
    exact ⟨h1, x :: pre, by simp [fls, h2], by simp [h3]⟩
  | .many A m :: S, S', 0, hS, h => by simp [dropS] at h; subst h; exact ⟨hS, [], rfl, rfl⟩
  | .many A m :: S, S', n + 1, hS, h => by
    unfold dropS at h
    simp only at h
    cases hb : Nat.ble m (n + 1) with
    | false => rw [hb] at h; simp at h
    | true =>
      rw [hb] at h
      have hle := Nat.le_of_ble_eq_true hb
      have hA := hS.1.1
      obtain ⟨h1, pre, h2, h3⟩ := dropS_ok hS.2 (n := n + 1 - m) h
      exact ⟨h1, A ++ pre, by simp [fls, h2], by simp [h3]; omega⟩
theorem partS_ok (hS : okS S) (h : partS S k n = some S') : okS S' ∧ ∃ pre post, fls S = pre ++ (fls S' ++ post) ∧ pre.length = k ∧ (fls S').length = n := by
  unfold partS at h
  cases hd : dropS S k with
  | none => rw [hd] at h; simp at h
  | some S1 =>
    rw [hd] at h
    obtain ⟨h1, pre, h2, h3⟩ := dropS_ok hS hd
    obtain ⟨h4, post, h5, h6⟩ := takeS_ok h1 h
    exact ⟨h4, pre, post, by rw [h2, h5], h3, h6⟩
theorem conS_ok : ∀ {T R S' : List Seg}, okS T → okS R → conS T R = some S' → okS S' ∧ fls S' = fls T ++ fls R
  | [], R, S', _, hR, h => by simp [conS] at h; subst h; exact ⟨hR, rfl⟩
  | s :: T, R, S', hT, hR, h => by
    unfold conS at h
    cases hs : conS T R with
    | none => rw [hs] at h; simp at h
    | some r =>
      rw [hs] at h
      simp at h
      subst h
      cases s with
      | one v => obtain ⟨h1, h2⟩ := conS_ok hT.2 hR hs; exact ⟨⟨hT.1, h1⟩, by simp [fls, h2]⟩
      | many A m => obtain ⟨h1, h2⟩ := conS_ok hT.2 hR hs; exact ⟨⟨hT.1, h1⟩, by simp [fls, h2]⟩
theorem splS_here (hS : okS S) (hT : okS T) (hl : lenS T = n) (h : (match dropS S n with | some R => conS T R | none => none) = some S') :
    okS S' ∧ ∃ pre old post, fls S = pre ++ (old ++ post) ∧ pre.length = 0 ∧ old.length = (fls T).length ∧ fls S' = pre ++ (fls T ++ post) := by
  cases hd : dropS S n with
  | none => rw [hd] at h; simp at h
  | some R =>
    rw [hd] at h
    obtain ⟨h1, pre, h2, h3⟩ := dropS_ok hS hd
    obtain ⟨h4, h5⟩ := conS_ok hT h1 h
    exact ⟨h4, [], pre, fls R, by simpa using h2, rfl, by rw [okS_len hT, hl, h3], by simpa using h5⟩
theorem splS_ok : ∀ {S S' : List Seg} {k : Nat}, okS S → okS T → lenS T = n → splS S k n T = some S' →
    okS S' ∧ ∃ pre old post, fls S = pre ++ (old ++ post) ∧ pre.length = k ∧ old.length = (fls T).length ∧ fls S' = pre ++ (fls T ++ post)
  | [], S', 0, hS, hT, hl, h => splS_here hS hT hl (by simpa [splS] using h)
  | [], S', k + 1, _, _, _, h => by simp [splS] at h
  | .one x :: S, S', 0, hS, hT, hl, h => splS_here hS hT hl (by simpa [splS] using h)
  | .one x :: S, S', k + 1, hS, hT, hl, h => by
    unfold splS at h
    simp only at h
    cases hs : splS S k n T with
    | none => rw [hs] at h; simp at h
    | some S1 =>
      rw [hs] at h
      simp at h
      subst h
      obtain ⟨h1, pre, old, post, h2, h3, h4, h5⟩ := splS_ok hS.2 hT hl hs
      exact ⟨⟨hS.1, h1⟩, x :: pre, old, post, by simp [fls, h2], by simp [h3], h4, by simp [fls, h5]⟩
  | .many A m :: S, S', 0, hS, hT, hl, h => splS_here hS hT hl (by simpa [splS] using h)
  | .many A m :: S, S', k + 1, hS, hT, hl, h => by
    unfold splS at h
    simp only at h
    cases hb : Nat.ble m (k + 1) with
    | false => rw [hb] at h; simp at h
    | true =>
      rw [hb] at h
      simp only at h
      have hle := Nat.le_of_ble_eq_true hb
      have hA := hS.1.1
      cases hs : splS S (k + 1 - m) n T with
      | none => rw [hs] at h; simp at h
      | some S1 =>
        rw [hs] at h
        simp at h
        subst h
        obtain ⟨h1, pre, old, post, h2, h3, h4, h5⟩ := splS_ok hS.2 hT hl hs
        exact ⟨⟨hS.1, h1⟩, A ++ pre, old, post, by simp [fls, h2], by simp [h3]; omega, h4, by simp [fls, h5]⟩
end

abbrev HB := List (Nat × TypeId × Bool × List Seg)
def HpRows (B : Nat) (W : World) : HB → Prop
  | [] => True
  | r :: H => (Row W r.1 r.2.1 (fls r.2.2.2).toArray ∧ okS r.2.2.2 ∧ (r.2.2.1 = true → B ≤ r.1)) ∧ (∀ s ∈ H, s.1 ≠ r.1) ∧ HpRows B W H
structure Hp (B : Nat) (w0 W : World) (H : HB) : Prop where
  below : Below B w0 W
  base : B ≤ W.heap.size
  rows : HpRows B W H
def HW (B : Nat) (w0 : World) (H : HB) : Type := { W : World // Hp B w0 W H }
def HW.w {B : Nat} {w0 : World} {H : HB} (x : HW B w0 H) : World := x.1
theorem HW.hp {B : Nat} {w0 : World} {H : HB} (x : HW B w0 H) : Hp B w0 x.w H := x.2
def nthH : HB → Nat → Option (Nat × TypeId × Bool × List Seg)
  | [], _ => none
  | r :: H, i => match i with
    | 0 => some r
    | i + 1 => nthH H i
def updH : HB → Nat → List Seg → Option HB
  | [], _, _ => none
  | r :: H, i, S => match i with
    | 0 => some ((r.1, r.2.1, r.2.2.1, S) :: H)
    | i + 1 => match updH H i S with
      | some H' => some (r :: H')
      | none => none
inductive SubH : HB → HB → Prop
  | refl {H} : SubH H H
  | drop {H r H'} (h : SubH H H') : SubH (r :: H) H'
  | keep {H r H'} (h : SubH H H') : SubH (r :: H) (r :: H')
theorem SubH.nil : ∀ {H : HB}, SubH H []
  | [] => .refl
  | _ :: _ => .drop SubH.nil
structure TyE where
  row : Bool
  size : Nat
  zero : List Seg
  places : List (Nat × Nat)
abbrev Tab := List (Nat × TyE)
def findT (n : Nat) : Tab → Option TyE
  | [] => none
  | (k, e) :: l => match Nat.beq k n with
    | true => some e
    | false => findT n l
def rowT (P : Program) (ty : TypeId) : Option Bool := (P.underlying ty).map TypeDesc.isRow
def sizeT (P : Program) (ty : TypeId) : Option Nat := (P.info? ty).map (·.size)
def zeroL (P : Program) (ty : TypeId) : List Value := match (P.info? ty).bind (·.zero) with | some z => z.cells.toList | none => []
def zeroOk (P : Program) (ty : TypeId) : Bool := ((P.info? ty).bind (·.zero)).isSome
def builtOk (P : Program) (t : TypeId) : Bool := (P.built t []).isSome
def placeT (P : Program) (t : TypeId) (i : Nat) : Option (Nat × Nat) := match P.underlying t with
  | some (.array _ e) => (P.info? e).map fun ie => (i * ie.size, ie.size)
  | some (.struct fs) => (fs.toList[i]?).bind fun f => (P.info? f.type).map fun x => (f.offset, x.size)
  | _ => none
def placesOk (P : Program) (t : TypeId) : Nat → List (Nat × Nat) → Bool
  | _, [] => true
  | i, p :: ps => decide (placeT P t i = some p) && placesOk P t (i + 1) ps
structure TyOk (P : Program) (ty : TypeId) (e : TyE) : Prop where
  row : rowT P ty = some e.row
  size : sizeT P ty = some e.size
  zok : zeroOk P ty = true
  zero : zeroL P ty = fls e.zero
  okz : okS e.zero
  built : e.row = true → builtOk P ty = true
  places : placesOk P ty 0 e.places = true
def TabOk (P : Program) (T : Tab) : Prop := ∀ p ∈ T, TyOk P p.1 p.2
def zoneOk (P : Program) (ty : TypeId) : Bool := (zeroL P ty).all (·.oneCell')
theorem OkA.z {P : Program} {ty n : Nat} (h1 : (zeroL P ty).length = n) (h2 : zoneOk P ty = true) : OkA (zeroL P ty) n := ⟨h1, List.all_eq_true.1 h2⟩
theorem TabOk.find {P : Program} {T : Tab} (h : TabOk P T) {ty : TypeId} {e : TyE} (hf : findT ty T = some e) : TyOk P ty e := by
  induction T with
  | nil => simp [findT] at hf
  | cons p T ih =>
    unfold findT at hf
    cases hb : Nat.beq p.1 ty with
    | true =>
      rw [hb] at hf
      simp at hf
      subst hf
      have := Nat.eq_of_beq_eq_true hb
      rw [← this]
      exact h p (by simp)
    | false =>
      rw [hb] at hf
      exact ih (fun q hq => h q (by simp [hq])) hf
def nthP : List (Nat × Nat) → Nat → Option (Nat × Nat)
  | [], _ => none
  | p :: l, i => match i with
    | 0 => some p
    | i + 1 => nthP l i
theorem places_ok {P : Program} {t : TypeId} : ∀ {l : List (Nat × Nat)} {j i : Nat} {p : Nat × Nat}, placesOk P t j l = true → nthP l i = some p → placeT P t (j + i) = some p
  | [], _, _, _, _, h => by simp [nthP] at h
  | q :: l, j, 0, p, hp, h => by
    simp [placesOk] at hp
    simp [nthP] at h
    rw [← h]
    exact hp.1
  | q :: l, j, i + 1, p, hp, h => by
    simp [placesOk] at hp
    have := places_ok hp.2 (i := i) (by simpa [nthP] using h)
    rw [← this]
    congr 1
    omega
inductive BR (e : TyE) : List Seg → List (Nat × Value) → List Seg → Prop
  | nil {S} : BR e S [] S
  | one {S S1 S2 : List Seg} {i k : Nat} {v u : Value} {ps : List (Nat × Value)} (hf : nthP e.places i = some (k, 1)) (hv : one1 v = some u) (hs : setS S k u = some S1) (h : BR e S1 ps S2) : BR e S ((i, v) :: ps) S2
  | row {S S1 S2 T : List Seg} {i k n : Nat} {v : Value} {ps : List (Nat × Value)} (hf : nthP e.places i = some (k, n)) (hv : v = .agg (fls T).toArray) (hs : splS S k n T = some S1) (hl : lenS T = n) (hT : okS T) (h : BR e S1 ps S2) : BR e S ((i, v) :: ps) S2
section
variable {P : Program} {T : Tab} {B : Nat} {w0 W W' : World} {H H' H0 : HB} {g : Nat} {t : TypeId} {b : Bool} {S S' S2 : List Seg} {e : TyE}
theorem HpRows.mem : ∀ {H : HB} {i : Nat}, HpRows B W H → nthH H i = some (g, t, b, S) → Row W g t (fls S).toArray ∧ okS S ∧ (b = true → B ≤ g)
  | [], _, _, h => by simp [nthH] at h
  | r :: H, 0, hH, h => by
    simp [nthH] at h
    subst h
    exact hH.1
  | r :: H, i + 1, hH, h => HpRows.mem hH.2.2 (by simpa [nthH] using h)
theorem HpRows.lt (h : HpRows B W H) : ∀ s ∈ H, s.1 < W.heap.size := by
  induction H with
  | nil => intro s hs; simp at hs
  | cons r H ih =>
    intro s hs
    rcases List.mem_cons.1 hs with rfl | hs
    · exact h.1.1.lt
    · exact ih h.2.2 s hs
theorem nthH_mem : ∀ {H : HB} {i : Nat} {r}, nthH H i = some r → r ∈ H
  | [], _, _, h => by simp [nthH] at h
  | r :: H, 0, _, h => by simp [nthH] at h; simp [h]
  | r :: H, i + 1, _, h => List.mem_cons_of_mem _ (nthH_mem (by simpa [nthH] using h))
theorem HpRows.far (hg : W.grownBy W' (some g)) : ∀ {H : HB}, HpRows B W H → (∀ s ∈ H, s.1 ≠ g) → HpRows B W' H := by
  intro H h hs
  induction H with
  | nil => trivial
  | cons r H ih =>
    exact ⟨⟨(hg.block r.1 h.1.1.lt (fun e => hs r (by simp) (by cases e; rfl))).trans h.1.1, h.1.2⟩, h.2.1, ih h.2.2 (fun s k => hs s (by simp [k]))⟩
theorem updH_gs : ∀ {H H' : HB} {i : Nat}, updH H i S' = some H' → H'.map (·.1) = H.map (·.1)
  | [], H', i, h => by simp [updH] at h
  | r :: H, H', 0, h => by simp [updH] at h; subst h; rfl
  | r :: H, H', i + 1, h => by
    unfold updH at h
    simp only at h
    cases hu : updH H i S' with
    | none => rw [hu] at h; simp at h
    | some H1 => rw [hu] at h; simp at h; subst h; simp [updH_gs hu]
theorem HpRows.upd (hr : Row W' g t (fls S').toArray) (hS : okS S') (hg : W.grownBy W' (some g)) : ∀ {H H' : HB} {i : Nat}, HpRows B W H → nthH H i = some (g, t, b, S) → updH H i S' = some H' → HpRows B W' H'
  | [], _, _, _, h, _ => by simp [nthH] at h
  | r :: H, H', 0, hH, h, hu => by
    simp [nthH] at h
    simp [updH] at hu
    subst h
    subst hu
    exact ⟨⟨hr, hS, hH.1.2.2⟩, hH.2.1, HpRows.far hg hH.2.2 hH.2.1⟩
  | r :: H, H', i + 1, hH, h, hu => by
    have h : nthH H i = some (g, t, b, S) := by simpa [nthH] using h
    unfold updH at hu
    simp only at hu
    cases hu1 : updH H i S' with
    | none => rw [hu1] at hu; simp at hu
    | some H1 =>
      rw [hu1] at hu
      simp at hu
      subst hu
      have hne : r.1 ≠ g := fun e => hH.2.1 _ (nthH_mem h) e.symm
      refine ⟨⟨(hg.block r.1 hH.1.1.lt (fun e => hne (by cases e; rfl))).trans hH.1.1, hH.1.2⟩, fun s hs => ?_, HpRows.upd hr hS hg hH.2.2 h hu1⟩
      have h1 : s.1 ∈ H1.map (·.1) := List.mem_map_of_mem hs
      rw [updH_gs hu1] at h1
      obtain ⟨s', hs', he⟩ := List.mem_map.1 h1
      rw [← he]
      exact hH.2.1 s' hs'
theorem HpRows.keep (h : HpRows B W H) (hb : Below W.heap.size W W') : HpRows B W' H := by
  induction H with
  | nil => trivial
  | cons r H ih => exact ⟨⟨h.1.1.below hb h.1.1.lt, h.1.2⟩, h.2.1, ih h.2.2⟩
theorem Hp.refl (w : World) : Hp w.heap.size w w [] := ⟨Below.refl _ _, Nat.le_refl _, trivial⟩
theorem Hp.upd {i : Nat} (h : Hp B w0 W H) (hi : nthH H i = some (g, t, true, S)) (hu : updH H i S' = some H') (hS : okS S') (hr : Row W' g t (fls S').toArray) (hg : W.grownBy W' (some g)) : Hp B w0 W' H' :=
  ⟨below_gb h.below hg ((h.rows.mem hi).2.2 rfl) h.base, Nat.le_trans h.base hg.size, h.rows.upd hr hS hg hi hu⟩
theorem Hp.keep (h : Hp B w0 W H) (hb : Below W.heap.size W W') : Hp B w0 W' H :=
  ⟨h.below.trans (hb.mono h.base), Nat.le_trans h.base hb.size, h.rows.keep hb⟩
theorem Hp.drew (h : Hp B w0 W H) : Hp B w0 W.drew H := h.keep (Below.refl _ _).drew
theorem Hp.new (h : Hp B w0 W H) (hb : Below W.heap.size W W') (hg : W.heap.size ≤ g) (hr : Row W' g t (fls S).toArray) (hS : okS S) : Hp B w0 W' ((g, t, true, S) :: H) :=
  ⟨(h.keep hb).below, (h.keep hb).base, ⟨hr, hS, fun _ => Nat.le_trans h.base hg⟩, fun s hs e => by have := h.rows.lt s hs; omega, h.rows.keep hb⟩
theorem Hp.alloc (h : Hp B w0 W H) (t : TypeId) (hS : okS S) : Hp B w0 (W.alloc (.cells (fls S).toArray t)) ((W.heap.size, t, true, S) :: H) :=
  h.new ((Below.refl _ _).alloc (Nat.le_refl _) _) (Nat.le_refl _) (Row.new W t _) hS
theorem SubH.mem (hs : SubH H H') : ∀ s ∈ H', s ∈ H := by
  induction hs with
  | refl => exact fun _ h => h
  | drop _ ih => exact fun s h => List.mem_cons_of_mem _ (ih s h)
  | keep _ ih =>
    intro s hm
    rcases List.mem_cons.1 hm with rfl | hm
    · exact List.mem_cons_self
    · exact List.mem_cons_of_mem _ (ih s hm)
theorem HpRows.sub (hs : SubH H H') : HpRows B W H → HpRows B W H' := by
  induction hs with
  | refl => exact fun h => h
  | drop _ ih => exact fun h => ih h.2.2
  | keep hs ih => exact fun h => ⟨h.1, fun s hm => h.2.1 s (hs.mem s hm), ih h.2.2⟩
theorem Hp.sub (h : Hp B w0 W H) (hs : SubH H H') : Hp B w0 W H' := ⟨h.below, h.base, h.rows.sub hs⟩
theorem Hp.old (h : Hp B w0 W H) (hr : Row w0 g t (fls S).toArray) (hg : g < B) (hS : okS S) (hn : ∀ s ∈ H, s.1 ≠ g) : Hp B w0 W ((g, t, false, S) :: H) :=
  ⟨h.below, h.base, ⟨hr.below h.below hg, hS, fun h => by cases h⟩, hn, h.rows⟩
theorem Hp.cell (h : Hp B w0 W H) {k o : Nat} (hb : k < B) : W.cell? ⟨k, o, none⟩ = w0.cell? ⟨k, o, none⟩ := h.below.cell (p := ⟨k, o, none⟩) hb
theorem rowT_true {ty : TypeId} (h : rowT P ty = some true) : ∃ d, P.underlying ty = some d ∧ d.isRow = true := by
  unfold rowT at h
  cases hu : P.underlying ty with
  | none => rw [hu] at h; simp at h
  | some d => rw [hu] at h; exact ⟨d, rfl, by simpa using h⟩
theorem run_load1 {ty : TypeId} (hT : rowT P ty = some false) {a : Addr} {v : Value} (hc : W.cell? a = some v) : (Instr.loadAt ty (.pointer (some a))).run P W = .ok v W := by
  have hagg : (isAgg ty).run P W = .ok false W := by
    unfold rowT at hT
    cases hu : P.underlying ty with
    | none => rw [hu] at hT; simp at hT
    | some d =>
      rw [hu] at hT
      unfold isAgg
      rw [Sem.run_bind, run_underlying hu W]
      cases d <;> simp_all
  simp [Instr.loadAt, Instr.sureAddr, loadVar, Sem.run_bind, hagg, hc]
theorem run_store1 {ty : TypeId} (hi : sizeT P ty = some 1) {g o : Nat} {v : Value} (hv : v.oneCell' = true) (hc : (W.cell? ⟨g, o, none⟩).isSome = true) (hf : W.frozen? ⟨g, o, none⟩ = false) :
    (Instr.storeAt ty (.pointer (some ⟨g, o, none⟩)) v).run P W = .ok () (W.setCell ⟨g, o, none⟩ v) := by
  have hcells : v.cells = #[v] := by cases v <;> simp_all [Value.cells, Value.oneCell']
  have h2 := run_storeCells_cells (P := P) g o [v] 0 W (fun j hj => by (obtain rfl : j = 0 := by simpa using hj); simpa using hc) (fun j hj => by (obtain rfl : j = 0 := by simpa using hj); simpa using hf) (fun u hu => by (obtain rfl : u = v := by simpa using hu); exact hv)
  unfold sizeT at hi
  cases hq : P.info? ty with
  | none => simp [hq] at hi
  | some i =>
    have hs : i.size = 1 := by simpa [hq] using hi
    simp only [Nat.add_zero] at h2
    simp [Instr.storeAt, Instr.sureAddr, storeVar, sizeOf, typeInfo, hq, hcells, hs, h2, Sem.run_bind, World.setCells]
theorem run_alloc0 {ty : TypeId} (hz : zeroOk P ty = true) (old : Value) : (Instr.alloc ty true old).run P W = .ok (.pointer (some ⟨W.heap.size, 0, none⟩)) (W.alloc (.cells (zeroL P ty).toArray ty)) := by
  unfold zeroOk at hz
  unfold zeroL
  cases hq : P.info? ty with
  | none => simp [hq] at hz
  | some i =>
    cases hz' : i.zero with
    | none => simp [hq, hz'] at hz
    | some z => simp [Instr.alloc, zeroValue, typeInfo, hq, hz', newVar, newRow, Sem.run_bind]
theorem fold_set (A : List Value) : ∀ (pre old post : List Value) (off : Nat) (n : Nat), old.length = A.length → off + n = pre.length →
    (A.zipIdx n).foldl (fun (cs : Array Value) (p : Value × Nat) => cs.setIfInBounds (off + p.2) p.1) (pre ++ (old ++ post)).toArray = (pre ++ (A ++ post)).toArray := by
  induction A with
  | nil => intro pre old post off n h _; obtain rfl : old = [] := List.eq_nil_of_length_eq_zero (by simpa using h); rfl
  | cons x A ih =>
    intro pre old post off n h hn
    match old, h with
    | y :: old, h =>
      rw [List.zipIdx_cons, List.foldl_cons]
      simp only [List.setIfInBounds_toArray]
      rw [hn, List.set_append_right _ _ (Nat.le_refl _), Nat.sub_self]
      have h2 := ih (pre ++ [x]) old post off (n + 1) (by simpa using h) (by simp; omega)
      simpa using h2
def SplL (cs : List Value) (k : Nat) (A : List Value) (cs' : List Value) : Prop := ∃ pre old post, cs = pre ++ (old ++ post) ∧ pre.length = k ∧ old.length = A.length ∧ cs' = pre ++ (A ++ post)
theorem fill_step {place : Nat → Option (Nat × Nat)} {i k : Nat} {v : Value} {A cs cs1 : List Value} {ps : List (Nat × Value)} (hf : place i = some (k, A.length)) (hv : v.cells = A.toArray) (hs : SplL cs k A cs1) :
    Instr.fill place cs.toArray ((i, v) :: ps) = Instr.fill place cs1.toArray ps := by
  obtain ⟨pre, old, post, rfl, rfl, h1, rfl⟩ := hs
  rw [Instr.fill, hf]
  simp only [hv, List.size_toArray, List.length_append]
  rw [if_neg (by simp; omega)]
  congr 1
  rw [← Array.foldl_toList]
  simp only [Array.toList_zipIdx]
  exact fold_set A pre old post pre.length 0 h1 rfl
theorem fill_R {place : Nat → Option (Nat × Nat)} (hp : ∀ i p, nthP e.places i = some p → place i = some p) {ps : List (Nat × Value)} (h : BR e S ps S') (hS : okS S) : Instr.fill place (fls S).toArray ps = some (fls S').toArray ∧ okS S' := by
  induction h with
  | nil => exact ⟨rfl, hS⟩
  | @one S S1 S2 i k v u ps hf hv hs _ ih =>
    obtain ⟨rfl, h1⟩ := one1_ok hv
    obtain ⟨h2, h3, h4⟩ := setS_ok hS h1 hs
    rw [fill_step (A := [v]) (cs1 := fls S1) (by rw [hp _ _ hf]; rfl) (by cases v <;> simp_all [Value.cells, Value.oneCell']) ?_]
    · exact ih h4
    · refine ⟨(fls S).take k, [(fls S)[k]], (fls S).drop (k + 1), ?_, ?_, rfl, ?_⟩
      · rw [List.singleton_append, ← List.drop_eq_getElem_cons h2, List.take_append_drop]
      · rw [List.length_take]; omega
      · rw [← h3, List.set_eq_take_append_cons_drop, if_pos h2]; rfl
  | @row S S1 S2 T i k n v ps hf hv hs hl hT _ ih =>
    subst hv
    obtain ⟨h1, h2⟩ := splS_ok hS hT hl hs
    rw [fill_step (A := fls T) (cs1 := fls S1) (by rw [hp _ _ hf, okS_len hT, hl]) rfl h2]
    exact ih h1
theorem run_buildR {t : TypeId} {ps : Array (Nat × Value)} (hE : TyOk P t e) (hb : e.row = true) (h : BR e e.zero ps.toList S) : (Instr.build t ps).run P W = .ok (.agg (fls S).toArray) W := by
  refine run_build W t ps _ ?_
  have ho := hE.built hb
  have hz0 := hE.zero
  have hpl : ∀ i p, nthP e.places i = some p → placeT P t i = some p := fun i p hi => by simpa using places_ok hE.places hi
  unfold builtOk at ho
  unfold Program.built at ho ⊢
  unfold zeroL at hz0
  cases hit : P.info? t with
  | none => simp [hit] at ho
  | some it =>
    cases hu : P.underlying t with
    | none => simp [hit, hu] at ho
    | some d =>
      cases hz : it.zero with
      | none => cases d <;> simp [hit, hu, hz] at ho
      | some z =>
        simp only [hit, Option.bind_some, hz] at hz0
        have hzc : z.cells = (fls e.zero).toArray := by rw [← hz0]
        cases d <;> try (simp [hit, hu] at ho; done)
        case array n el =>
          cases hie : P.info? el with
          | none => simp [hit, hu, hz, hie] at ho
          | some ie =>
            simp only [hz, hie, hzc]
            exact (fill_R (fun i p hi => by rw [← hpl i p hi]; simp [placeT, hu, hie]) h hE.okz).1
        case struct fields =>
          cases hp : fields.toList.mapM (fun f => (P.info? f.type).map fun i => (f.offset, i.size)) with
          | none => simp [hit, hu, hz, hp] at ho
          | some places =>
            simp only [hz, hp, hzc]
            have hq : ∀ i, places[i]? = placeT P t i := by
              intro i
              simp only [placeT, hu]
              generalize fields.toList = fs at hp
              clear ho hu hit h hpl hE
              induction fs generalizing places i with
              | nil => simp at hp; subst hp; simp
              | cons f fs ih =>
                simp only [List.mapM_cons, Option.bind_eq_bind, Option.pure_def] at hp
                cases hi : P.info? f.type with
                | none => simp [hi] at hp
                | some x =>
                  cases hr : fs.mapM (fun f => (P.info? f.type).map fun i => (f.offset, i.size)) with
                  | none => simp [hi, hr] at hp
                  | some rest =>
                    simp [hi, hr] at hp
                    subst hp
                    cases i with
                    | zero => simp [hi]
                    | succ i => simpa using ih rest i hr
            exact (fill_R (place := fun i => places.toArray[i]?) (fun i p hi => by rw [List.getElem?_toArray, hq, hpl i p hi]) h hE.okz).1
theorem range_of {i k : Nat} {A : List Value} (hH : Hp B w0 W H) (hi : nthH H i = some (g, t, b, S)) (hp : ∃ pre post, fls S = pre ++ (A ++ post) ∧ pre.length = k) : W.rangeAt g k A := fun j v hv => by
  obtain ⟨pre, post, h1, h2⟩ := hp
  rw [(hH.rows.mem hi).1.cell, List.getElem?_toArray, h1, List.getElem?_append_right (by omega), show k + j - pre.length = j by omega]
  rw [List.getElem?_append_left (List.getElem?_eq_some_iff.1 hv).1]
  exact hv
theorem gb_setCells {a : World} {g : Nat} : ∀ {w : World} (h : a.grownBy w (some g)) (vs : List Value) (o : Nat), a.grownBy (w.setCells g o vs) (some g)
  | _, h, [], _ => h
  | w, h, v :: vs, o => by rw [World.setCells]; exact gb_setCells (gb_set h o v) vs (o + 1)
variable {ops : Array Oper} {rest : List Oper} {op : Oper} {a : Act} {Q : Exit → Act → World → Prop} {ty : TypeId} {x y : Operand} {o : Nat} {u v : Value} {A : List Value} {j : Nat}
theorem run_cell {i : Nat} (hT : TabOk P T) (hH : Hp B w0 W H) (hi : nthH H i = some (g, t, b, S)) (hty : findT ty T = some e) (hr : e.row = false) (hc : (fls S)[o]? = some v) : (Instr.loadAt ty (.pointer (some ⟨g, o, none⟩))).run P W = .ok v W :=
  run_load1 (by rw [(hT.find hty).row, hr]) (by rw [(hH.rows.mem hi).1.cell, List.getElem?_toArray]; exact hc)
theorem wpL_load (ho : op.op = .load ty x) (hw : Region.wanted op (yielded ops a.tmps) = true) (hx : a.eval x = u) (hl : (Instr.loadAt ty u).run P W = .ok v W) (h : wpList P ops Q rest (a.put op.dst v) W) : wpList P ops Q (op :: rest) a W := by
  unfold wpList
  rw [if_pos hw]
  refine Or.inl ?_
  unfold Oper.wp execOp
  simp only [ho, hx, Sem.run_bind, hl, Result.andThen_ok, Sem.run_pure]
  exact h
theorem wN {o : Oper} {y : Nat → Option Bool} (h : o.guard = none) : Region.wanted o y = true := by unfold Region.wanted; rw [h]
theorem gL (ho : op.op = .load ty x) (h : wpList P ops Q (op :: rest) a W) : wpList P ops Q (op :: rest) a W := h
theorem gS (ho : op.op = .store ty x y) (h : wpList P ops Q (op :: rest) a W) : wpList P ops Q (op :: rest) a W := h
theorem hL1 (hT : TabOk P T) (i : Nat) (ho : op.op = .load ty x) (hw : Region.wanted op (yielded ops a.tmps) = true) (hx : a.eval x = .pointer (some ⟨g, o, none⟩)) (hH : Hp B w0 W H) (hi : nthH H i = some (g, t, b, S))
    (hty : findT ty T = some e) (hr : e.row = false) (hc : cellS S o = some v) (h : ∀ W', Hp B w0 W' H → wpList P ops Q rest (a.put op.dst v) W') : wpList P ops Q (op :: rest) a W :=
  wpL_load ho hw hx (run_cell hT hH hi hty hr (cellS_ok (hH.rows.mem hi).2.1 hc)) (h W hH)
def CellA (A : List Value) (j : Nat) (v : Value) : Prop := A[j]? = some v
theorem hL1i (hT : TabOk P T) (i : Nat) (ho : op.op = .load ty x) (hw : Region.wanted op (yielded ops a.tmps) = true) (hx : a.eval x = .pointer (some ⟨g, o, none⟩)) (hH : Hp B w0 W H) (hi : nthH H i = some (g, t, b, S))
    (hty : findT ty T = some e) (hr : e.row = false) (hc : intoS S o = some (A, j)) (h : ∃ v, CellA A j v ∧ ∀ W', Hp B w0 W' H → wpList P ops Q rest (a.put op.dst v) W') : wpList P ops Q (op :: rest) a W := by
  obtain ⟨v, hv, h⟩ := h
  exact wpL_load ho hw hx (run_cell hT hH hi hty hr (intoS_ok (hH.rows.mem hi).2.1 hc hv)) (h W hH)
theorem run_row {i : Nat} (hT : TabOk P T) (hH : Hp B w0 W H) (hi : nthH H i = some (g, t, b, S)) (hty : findT ty T = some e) (hr : e.row = true) (hc : partS S o e.size = some S2) : (Instr.loadAt ty (.pointer (some ⟨g, o, none⟩))).run P W = .ok (.agg (fls S2).toArray) W := by
  obtain ⟨_, pre, post, h1, h2, h3⟩ := partS_ok (hH.rows.mem hi).2.1 hc
  obtain ⟨d, hu, hd⟩ := rowT_true (by rw [(hT.find hty).row, hr])
  have hs := (hT.find hty).size
  unfold sizeT at hs
  exact run_loadAt_mid (P := P) W g o ty (fls S2) d (range_of hH hi ⟨pre, post, h1, h2⟩) hu hd (by rw [hs, h3])
theorem hS1 (hT : TabOk P T) (i : Nat) (ho : op.op = .store ty x y) (hw : Region.wanted op (yielded ops a.tmps) = true) (hx : a.eval x = .pointer (some ⟨g, o, none⟩)) (hy : one1 (a.eval y) = some v) (hH : Hp B w0 W H) (hi : nthH H i = some (g, t, true, S))
    (hty : findT ty T = some e) (hr : e.size = 1) (hs : setS S o v = some S') (hu : updH H i S' = some H') (h : ∀ W', Hp B w0 W' H' → wpList P ops Q rest (a.put op.dst undef) W') : wpList P ops Q (op :: rest) a W := by
  unfold wpList
  rw [if_pos hw]
  refine Or.inl ?_
  obtain ⟨hy, h1⟩ := one1_ok hy
  obtain ⟨hr1, hS, _⟩ := hH.rows.mem hi
  obtain ⟨hs1, hs2, hs3⟩ := setS_ok hS h1 hs
  have hl := run_store1 (P := P) (W := W) (by rw [(hT.find hty).size, hr]) (g := g) (o := o) h1 (by rw [hr1.cell, List.getElem?_toArray, List.getElem?_eq_getElem hs1]; rfl) (hr1.frozen o)
  unfold Oper.wp execOp
  simp only [ho, hx, hy, Sem.run_bind, hl, Result.andThen_ok, Sem.run_pure]
  refine h _ (hH.upd hi hu hs3 ?_ (gb_set (World.grownBy.refl W _) o v))
  have := hr1.set o v
  rwa [List.setIfInBounds_toArray, hs2] at this
theorem hSR (hT : TabOk P T) (i : Nat) (ho : op.op = .store ty x y) (hw : Region.wanted op (yielded ops a.tmps) = true) (hx : a.eval x = .pointer (some ⟨g, o, none⟩)) (hy : a.eval y = .agg (fls S2).toArray) (hH : Hp B w0 W H) (hi : nthH H i = some (g, t, true, S))
    (hty : findT ty T = some e) (hr : lenS S2 = e.size) (hs : splS S o e.size S2 = some S') (hu : updH H i S' = some H') (hS2 : okS S2) (h : ∀ W', Hp B w0 W' H' → wpList P ops Q rest (a.put op.dst undef) W') : wpList P ops Q (op :: rest) a W := by
  unfold wpList
  rw [if_pos hw]
  obtain ⟨hr1, hS, _⟩ := hH.rows.mem hi
  obtain ⟨hS', pre, old, post, e1, e2, e3, e4⟩ := splS_ok hS hS2 hr hs
  have hl : (fls S).length = pre.length + (old.length + post.length) := by rw [e1]; simp
  have hz := (hT.find hty).size
  unfold sizeT at hz
  refine Or.inl (wp_store_mid ty x y ho g o (fls S2).toArray hx hy (fun j hj => ?_) (by rw [hz, List.size_toArray, okS_len hS2, hr]) (oneL _ (List.all_eq_true.2 (okS_one hS2))) (h _ (hH.upd hi hu hS' ?_ (gb_setCells (World.grownBy.refl W _) _ _))))
  · have hj' : j < (fls S2).length := by simpa using hj
    rw [hr1.cell, hr1.frozen]
    exact ⟨by rw [List.getElem?_toArray, List.getElem?_eq_getElem (by omega)]; rfl, rfl⟩
  · have h2 := hr1.setAt (o := o) (vs := fls S2) (by rw [List.size_toArray]; omega)
    have h3 : splice (fls S).toArray o (fls S2) = (fls S').toArray := by
      unfold splice
      congr 1
      show (fls S).take o ++ (fls S2 ++ (fls S).drop (o + (fls S2).length)) = fls S'
      subst e2
      rw [e1, e4, ← e3]
      simp
    rw [h3] at h2
    exact h2
theorem hAl (hT : TabOk P T) (ho : op.op = .alloc ty) (hw : Region.wanted op (yielded ops a.tmps) = true) (hH : Hp B w0 W H) (hty : findT ty T = some e)
    (h : ∀ W' g, Hp B w0 W' ((g, ty, true, e.zero) :: H) → wpList P ops Q rest (a.put op.dst (.pointer (some ⟨g, 0, none⟩))) W') : wpList P ops Q (op :: rest) a W := by
  unfold wpList
  rw [if_pos hw]
  refine Or.inl ?_
  have hE := hT.find hty
  unfold Oper.wp execOp
  simp only [ho, Sem.run_bind, run_alloc0 (W := W) hE.zok, Result.andThen_ok, Sem.run_pure]
  have := hH.alloc ty hE.okz
  rw [← hE.zero] at this
  exact h _ _ (by have := hH.alloc ty hE.okz; rw [← hE.zero] at this; exact this)
theorem run_box {x : Value} : (Instr.box ty x).run P W = .ok (.pointer (some ⟨W.heap.size, 0, none⟩)) (W.alloc (.cells x.cells ty)) := by simp [Instr.box, newVar, newRow, Sem.run_bind]
theorem hBx (ho : op.op = .box ty x) (hw : Region.wanted op (yielded ops a.tmps) = true) (hx : a.eval x = .agg (fls S).toArray) (hH : Hp B w0 W H) (hS : okS S)
    (h : ∀ W' g, Hp B w0 W' ((g, ty, true, S) :: H) → wpList P ops Q rest (a.put op.dst (.pointer (some ⟨g, 0, none⟩))) W') : wpList P ops Q (op :: rest) a W := by
  unfold wpList
  rw [if_pos hw]
  refine Or.inl ?_
  unfold Oper.wp execOp
  simp only [ho, hx, Sem.run_bind, run_box, Result.andThen_ok, Sem.run_pure]
  exact h _ _ (hH.alloc ty hS)
theorem hBx1 (ho : op.op = .box ty x) (hw : Region.wanted op (yielded ops a.tmps) = true) (hx : one1 (a.eval x) = some v) (hH : Hp B w0 W H)
    (h : ∀ W' g, Hp B w0 W' ((g, ty, true, [.one v]) :: H) → wpList P ops Q rest (a.put op.dst (.pointer (some ⟨g, 0, none⟩))) W') : wpList P ops Q (op :: rest) a W := by
  obtain ⟨hx, h1⟩ := one1_ok hx
  unfold wpList
  rw [if_pos hw]
  refine Or.inl ?_
  unfold Oper.wp execOp
  simp only [ho, hx, Sem.run_bind, run_box, Result.andThen_ok, Sem.run_pure]
  have hc : v.cells = (fls [.one v]).toArray := by cases v <;> simp_all [Value.cells, Value.oneCell', fls]
  rw [hc]
  exact h _ _ (hH.alloc ty ⟨h1, trivial⟩)
theorem hBd (hT : TabOk P T) {parts : Array (Nat × Operand)} {pv : List (Nat × Value)} (ho : op.op = .build ty parts) (hw : Region.wanted op (yielded ops a.tmps) = true) (hl : (parts.toList.map fun p => (p.1, a.eval p.2)) = pv) (hty : findT ty T = some e) (hr : e.row = true) (hH : Hp B w0 W H)
    (h : ∃ S, BR e e.zero pv S ∧ ∀ W', Hp B w0 W' H → wpList P ops Q rest (a.put op.dst (.agg (fls S).toArray)) W') : wpList P ops Q (op :: rest) a W := by
  obtain ⟨S, hR, hk⟩ := h
  exact wpList_buildF (fun w => run_buildR (ps := pv.toArray) (hT.find hty) hr hR) ho hw hl (hk W hH)
theorem callH {f : FuncId} {args : Array Value} {R : Ending → World → Prop} (hH : Hp B w0 W H) (h : ∃ v, Gives P f args W v ∧ ∀ W', Hp B w0 W' H → R (.returned v) W') : Calls P f args W R := by
  obtain ⟨v, h, hR⟩ := h
  exact h.to.mono fun _ _ ⟨he, hb⟩ => by subst he; exact hR _ (hH.keep hb)
theorem callQ {f : FuncId} {args : Array Value} {y : HW B w0 H} (h : Gives P f args y.w v) : Calls P f args y.w fun e w'' => e = .returned v ∧ ∃ z : HW B w0 H, w'' = z.w :=
  h.to.mono fun _ _ ⟨he, hb⟩ => ⟨he, ⟨_, y.hp.keep hb⟩, rfl⟩
theorem regQ {id : Nat} {l : List Oper} (hH : Hp B w0 W H) (hm : P.follows .mixedOrders = true) (hB : Region.lexB .any l.toArray = true)
    (h : ∀ [Nonempty (HW B w0 H)], wpQuiet P l.toArray (fun W' => ∃ y : HW B w0 H, W' = y.w) (fun a' => ∀ W', Hp B w0 W' H → Q .normal a' W') l a) : (Code.region id l.toArray true).wp P Q a W := by
  haveI : Nonempty (HW B w0 H) := ⟨⟨W, hH⟩⟩
  have hk : ∀ (l' : List Oper) (a' : Act), wpQuiet P l.toArray (fun W' => ∃ y : HW B w0 H, W' = y.w) (fun a' => ∀ W', Hp B w0 W' H → Q .normal a' W') l' a' →
      wpQuiet P l.toArray (fun W' => ∃ y : HW B w0 H, W' = y.w) (fun a' => ∀ W', (∃ y : HW B w0 H, W' = y.w) → Q .normal a' W') l' a' := by
    intro l'
    induction l' with
    | nil => intro a' h W' hW'; obtain ⟨y, rfl⟩ := hW'; exact h _ y.hp
    | cons o l' ih =>
      intro a' h
      unfold wpQuiet at h ⊢
      split
      · rename_i hw
        rw [if_pos hw] at h
        obtain ⟨v, h1, h2⟩ := h
        exact ⟨v, h1, ih _ h2⟩
      · rename_i hw
        rw [if_neg hw] at h
        exact ih _ h
  exact wp_region_quiet (C := fun W' => ∃ y : HW B w0 H, W' = y.w) hm hB ⟨⟨_, hH.drew⟩, rfl⟩ (by simpa using hk _ _ h)
theorem qL1i {K : Act → Prop} (hT : TabOk P T) (i : Nat) (ho : op.op = .load ty x) (hx : a.eval x = .pointer (some ⟨g, o, none⟩)) (hi : nthH H i = some (g, t, b, S)) (hty : findT ty T = some e) (hr : e.row = false) (hc : intoS S o = some (A, j))
    (h : ∃ v, CellA A j v ∧ K (a.put op.dst v)) : op.quiet P a (fun W' => ∃ y : HW B w0 H, W' = y.w) K := by
  obtain ⟨v, hv, hk⟩ := h
  exact quiet_load ho hx (fun w hw => by obtain ⟨y, rfl⟩ := hw; exact run_cell hT y.hp hi hty hr (intoS_ok (y.hp.rows.mem hi).2.1 hc hv)) hk
theorem qBd {C : World → Prop} {K : Act → Prop} (hT : TabOk P T) {parts : Array (Nat × Operand)} {pv : List (Nat × Value)} (ho : op.op = .build ty parts) (hl : (parts.toList.map fun p => (p.1, a.eval p.2)) = pv) (hty : findT ty T = some e) (hr : e.row = true)
    (h : ∃ S, BR e e.zero pv S ∧ K (a.put op.dst (.agg (fls S).toArray))) : op.quiet P a C K := by
  obtain ⟨S, hR, hk⟩ := h
  exact quiet_build (fun w => run_buildR (ps := pv.toArray) (hT.find hty) hr hR) ho hl hk
def WMS (P : Program) (l : List Oper) (Q : Exit → Act → World → Prop) (B : Nat) (w0 : World) (H : HB) (fuel : Nat) (listed : Array Bool) (a : Act) (w : World) : Prop :=
  wpAnyH P .any l.toArray Q (fun W' => ∃ y : HW B w0 H, W' = y.w) fuel listed a w
variable {l : List Oper} {fuel : Nat} {listed : Array Bool} {H0 : HB}
theorem regM {id : Nat} (hH : Hp B w0 W H) (_hS : SubH H H0) (hm : P.follows .mixedOrders = true) (h : ∀ W', Hp B w0 W' H → WMS P l Q B w0 H0 l.length (Array.replicate l.length false) a W') : (Code.region id l.toArray true).wp P Q a W :=
  wp_region_held (S := fun W' => ∃ y : HW B w0 H0, W' = y.w) hm (by have := h _ hH.drew; unfold WMS at this; simpa using this)
theorem hm_take {o : Oper} (i : Nat) (ho : l[i]? = some o) (hs : Region.noSelect l.toArray = true) (hf : (Region.free .any l.toArray listed i && (Region.ready .any l.toArray listed).contains i && valueKindH o) = true)
    (hQ : ∀ c a v w, Q (.panic c) (a.put o.dst v) w → Q (.panic c) a w) (hH : Hp B w0 W H) (hS : SubH H H0)
    (h : ∀ [Nonempty (HW B w0 H0)], wpQuiet P l.toArray (fun W' => ∃ y : HW B w0 H0, W' = y.w) (fun a' => WMS P l Q B w0 H0 fuel (listed.setIfInBounds i true) a' W) [o] a) : WMS P l Q B w0 H0 (fuel + 1) listed a W := by
  simp only [Bool.and_eq_true] at hf
  obtain ⟨⟨hf, hr⟩, hk⟩ := hf
  have ho' : l.toArray[i]? = some o := by simpa using ho
  haveI : Nonempty (HW B w0 H0) := ⟨⟨W, hH.sub hS⟩⟩
  have h := @h this
  have hSS : ∃ y : HW B w0 H0, W = y.w := ⟨⟨W, hH.sub hS⟩, rfl⟩
  unfold WMS
  unfold wpQuiet at h
  by_cases hw : Region.wanted o (yielded l.toArray a.tmps) = true
  · rw [if_pos hw] at h
    obtain ⟨v, h1, h2⟩ := h
    refine wpAnyH_take (v := v) ho' hs hf hr (fun c a w => hQ c a _ w) (Or.inl ⟨hw, fun w1 hw1 => ?_⟩) hSS h2
    have h3 := h1 w1 hw1
    unfold Oper.quietAt at h3
    cases hrun : (execOp a.eval o).run P w1 with
    | ok n w2 =>
      obtain ⟨u, rfl⟩ := exec_valueH hk hrun
      rw [hrun] at h3
      obtain ⟨e1, e2⟩ := h3
      rw [e1, e2]
    | halt x w2 => rw [hrun] at h3; exact h3.elim
  · rw [if_neg hw] at h
    exact wpAnyH_take (v := undef) ho' hs hf hr (fun c a w => hQ c a _ w) (Or.inr ⟨by simpa using hw, rfl⟩) hSS h
inductive PickR (l : List Oper) : List Nat → List Oper → Prop
  | nil : PickR l [] []
  | cons {i : Nat} {o : Oper} {ix : List Nat} {os : List Oper} (ho : l[i]? = some o) (h : PickR l ix os) : PickR l (i :: ix) (o :: os)
def takesOk (l : List Oper) : Array Bool → List Nat → Bool
  | _, [] => true
  | listed, i :: ix => (Region.free .any l.toArray listed i && (Region.ready .any l.toArray listed).contains i && (match l[i]? with | some o => valueKindH o | none => false)) && takesOk l (listed.setIfInBounds i true) ix
def setAllB (listed : Array Bool) : List Nat → Array Bool
  | [] => listed
  | i :: ix => setAllB (listed.setIfInBounds i true) ix
theorem hm_takes {ix : List Nat} {os : List Oper} (hp : PickR l ix os) (hs : Region.noSelect l.toArray = true) (hc : takesOk l listed ix = true)
    (hQ : ∀ c a v w (t : Tmp), Q (.panic c) (a.put (some t) v) w → Q (.panic c) a w) (hH : Hp B w0 W H) (hS : SubH H H0)
    (h : ∀ [Nonempty (HW B w0 H0)], wpQuiet P l.toArray (fun W' => ∃ y : HW B w0 H0, W' = y.w) (fun a' => WMS P l Q B w0 H0 fuel (setAllB listed ix) a' W) os a) : WMS P l Q B w0 H0 (fuel + ix.length) listed a W := by
  haveI : Nonempty (HW B w0 H0) := ⟨⟨W, hH.sub hS⟩⟩
  have h := @h this
  induction hp generalizing listed a with
  | nil => exact h
  | @cons i o ix os ho hp ih =>
    unfold takesOk at hc
    rw [Bool.and_eq_true, ho] at hc
    have e : fuel + (i :: ix).length = (fuel + ix.length) + 1 := by simp; omega
    rw [e]
    refine hm_take i ho hs hc.1 (fun c a v w hq => by
      cases hd : o.dst with
      | none => rw [hd] at hq; exact hq
      | some t => rw [hd] at hq; exact hQ c a v w t hq) hH hS ?_
    intro _
    unfold wpQuiet at h ⊢
    split
    · rename_i hw
      rw [if_pos hw] at h
      obtain ⟨v, h1, h2⟩ := h
      exact ⟨v, h1, ih hc.2 (fun {_} => h2) h2⟩
    · rename_i hw
      rw [if_neg hw] at h
      exact ih hc.2 (fun {_} => h) h
theorem hm_nil {C : World → Prop} {ops' : Array Oper} (h : WMS P l Q B w0 H0 fuel listed a W) : wpQuiet P ops' C (fun a' => WMS P l Q B w0 H0 fuel listed a' W) [] a := h
def hmQ (P : Program) (l : List Oper) (Q : Exit → Act → World → Prop) (B : Nat) (w0 : World) (H0 : HB) (fuel : Nat) (listed : Array Bool) : Exit → Act → World → Prop
  | .normal, a, w => (∃ y : HW B w0 H0, w = y.w) ∧ WMS P l Q B w0 H0 fuel listed a w
  | e, a, w => Q e a w
theorem hmQ_normal (hH : Hp B w0 W H) (hS : SubH H H0) (h2 : WMS P l Q B w0 H0 fuel listed a W) : hmQ P l Q B w0 H0 fuel listed .normal a W := ⟨⟨⟨W, hH.sub hS⟩, rfl⟩, h2⟩
theorem hm_op {o : Oper} (i : Nat) (ho : l[i]? = some o) (h : wpList P l.toArray (hmQ P l Q B w0 H0 fuel (listed.setIfInBounds i true)) [o] a W) :
    wpOp P l.toArray Q i (fun a' w' => (∃ y : HW B w0 H0, w' = y.w) ∧ wpAnyH P .any l.toArray Q (fun W' => ∃ y : HW B w0 H0, W' = y.w) fuel (listed.setIfInBounds i true) a' w') a W := by
  have ho' : l.toArray[i]? = some o := by simpa using ho
  unfold wpOp
  rw [ho']
  simp only
  have hout : LetsOut (hmQ P l Q B w0 H0 fuel (listed.setIfInBounds i true)) → LetsOut Q := fun ⟨a1, w1, h1⟩ => ⟨a1, w1, h1⟩
  unfold wpList at h
  by_cases hw : Region.wanted o (yielded l.toArray a.tmps) = true
  · rw [if_pos hw] at h ⊢
    refine h.imp (fun h => ?_) (fun h => ⟨h.1, hout h.2⟩)
    unfold Oper.wp at *
    generalize (execOp a.eval o).run P W = r at *
    cases r with
    | ok n w' =>
      cases n <;> simp only [Oper.upon] at h ⊢ <;>
        first
          | exact h
          | exact Calls.mono h (fun e w'' he => by cases e <;> first | exact he | exact hout he)
          | exact Rows.mono h (fun _ _ he => he)
    | halt x w' => cases x <;> simp only [Oper.upon] at h ⊢ <;> exact h
  · rw [if_neg hw] at h ⊢
    exact h
theorem hm_one {o : Oper} (i : Nat) (ho : l[i]? = some o) (hr : Region.ready .any l.toArray listed = [i]) (h : wpList P l.toArray (hmQ P l Q B w0 H0 fuel (listed.setIfInBounds i true)) [o] a W) : WMS P l Q B w0 H0 (fuel + 1) listed a W := by
  unfold WMS
  refine wpAnyH_all hr (by simp) (fun j hj => ?_)
  obtain rfl : j = i := by simpa using hj
  exact hm_op j ho h
theorem hm_two {o o2 : Oper} (i j : Nat) (ho : l[i]? = some o) (ho2 : l[j]? = some o2) (hr : Region.ready .any l.toArray listed = [i, j]) (h : wpList P l.toArray (hmQ P l Q B w0 H0 fuel (listed.setIfInBounds i true)) [o] a W)
    (h2 : wpList P l.toArray (hmQ P l Q B w0 H0 fuel (listed.setIfInBounds j true)) [o2] a W) : WMS P l Q B w0 H0 (fuel + 1) listed a W := by
  unfold WMS
  refine wpAnyH_all hr (by simp) (fun k hk => ?_)
  simp at hk
  rcases hk with rfl | rfl
  · exact hm_op k ho h
  · exact hm_op k ho2 h2
theorem hm_end (hr : Region.ready .any l.toArray listed = []) (h : Q .normal a W) : WMS P l Q B w0 H0 fuel listed a W := wpAnyH_done hr h _
def mixF (B : Nat) (w0 : World) (af : Nat → Act) (Hf : Nat → HB) : Exit → Act → World → Prop
  | .normal, a, w => ∃ g, a = af g ∧ Hp B w0 w (Hf g)
  | _, _, _ => False
theorem retC {fn : Func} {p : Tmp} {R : Ending → World → Prop} (h : fn.results = #[.cell p ty]) (hT : TabOk P T) (i : Nat) (hp : a.tmps.getD p undef = .pointer (some ⟨g, 0, none⟩)) (h0 : a.defers = [])
    (hH : Hp B w0 W H) (hi : nthH H i = some (g, t, b, S)) (hty : findT ty T = some e) (hr : e.row = true) (hl : partS S 0 e.size = some S2) (hR : R (.returned (.agg (fls S2).toArray)) W) : bodyPost P fn R .ret a W := by
  obtain ⟨_, pre, post, h1, h2, h3⟩ := partS_ok (hH.rows.mem hi).2.1 hl
  obtain ⟨d, hu, hd⟩ := rowT_true (by rw [(hT.find hty).row, hr])
  have hs := (hT.find hty).size
  unfold sizeT at hs
  refine bodyPost_ret ?_ h0 hR
  have hl := run_loadVar_mid (P := P) W g 0 ty (fls S2) d (range_of hH hi ⟨pre, post, h1, h2⟩) hu hd (by rw [hs, h3])
  have hp' : a.tmps[p]?.getD undef = .pointer (some ⟨g, 0, none⟩) := by simpa using hp
  simp [results, h, hp', asAddr, hl, Sem.run_bind, Result.andThen]
theorem retC2 {fn : Func} {p q : Tmp} {R : Ending → World → Prop} (h : fn.results = #[.cell p ty, .tmp q]) (hT : TabOk P T) (i : Nat) (hp : a.tmps.getD p undef = .pointer (some ⟨g, 0, none⟩)) (h0 : a.defers = [])
    (hH : Hp B w0 W H) (hi : nthH H i = some (g, t, b, S)) (hty : findT ty T = some e) (hr : e.row = true) (hl : partS S 0 e.size = some S2) (hR : R (.returned (.tuple #[.agg (fls S2).toArray, a.tmps.getD q undef])) W) : bodyPost P fn R .ret a W := by
  obtain ⟨_, pre, post, h1, h2, h3⟩ := partS_ok (hH.rows.mem hi).2.1 hl
  obtain ⟨d, hu, hd⟩ := rowT_true (by rw [(hT.find hty).row, hr])
  have hs := (hT.find hty).size
  unfold sizeT at hs
  refine bodyPost_ret ?_ h0 hR
  have hl := run_loadVar_mid (P := P) W g 0 ty (fls S2) d (range_of hH hi ⟨pre, post, h1, h2⟩) hu hd (by rw [hs, h3])
  have hp' : a.tmps[p]?.getD undef = .pointer (some ⟨g, 0, none⟩) := by simpa using hp
  simp [results, h, hp', asAddr, hl, Sem.run_bind, Result.andThen]
end
end Go.Proofs.YtdnehjhijmeihaaGreat
namespace Go.Proofs.YtdnehjhijmeihaaGreat
set_option linter.unusedVariables false
theorem ty_2 : TyOk Tryz.prog 2 ⟨false, 1, [.one (Value.int .i64 0)], []⟩ := ⟨by kernel_rfl, by kernel_rfl, by kernel_rfl, by kernel_rfl, ⟨rfl, trivial⟩, (fun h => by cases h), by kernel_rfl⟩
theorem ty_3 : TyOk Tryz.prog 3 ⟨false, 1, [.one (Value.int .i64 0)], []⟩ := ⟨by kernel_rfl, by kernel_rfl, by kernel_rfl, by kernel_rfl, ⟨rfl, trivial⟩, (fun h => by cases h), by kernel_rfl⟩
theorem ty_4 : TyOk Tryz.prog 4 ⟨false, 1, [.one (Value.bool false)], []⟩ := ⟨by kernel_rfl, by kernel_rfl, by kernel_rfl, by kernel_rfl, ⟨rfl, trivial⟩, (fun h => by cases h), by kernel_rfl⟩
theorem ty_5 : TyOk Tryz.prog 5 ⟨false, 1, [.one (Value.int .u8 0)], []⟩ := ⟨by kernel_rfl, by kernel_rfl, by kernel_rfl, by kernel_rfl, ⟨rfl, trivial⟩, (fun h => by cases h), by kernel_rfl⟩
theorem ty_6 : TyOk Tryz.prog 6 ⟨false, 1, [.one (Value.int .u8 0)], []⟩ := ⟨by kernel_rfl, by kernel_rfl, by kernel_rfl, by kernel_rfl, ⟨rfl, trivial⟩, (fun h => by cases h), by kernel_rfl⟩
theorem ty_7 : TyOk Tryz.prog 7 ⟨true, 4, [.one (Value.int .i64 0), .one (Value.int .i64 0), .one (Value.bool false), .one (Value.int .u8 0)], [(0, 1), (1, 1), (2, 1), (3, 1)]⟩ := ⟨by kernel_rfl, by kernel_rfl, by kernel_rfl, by kernel_rfl, ⟨rfl, ⟨rfl, ⟨rfl, ⟨rfl, trivial⟩⟩⟩⟩, (fun _ => by kernel_rfl), by kernel_rfl⟩
theorem ty_8 : TyOk Tryz.prog 8 ⟨true, 4, [.one (Value.int .i64 0), .one (Value.int .i64 0), .one (Value.bool false), .one (Value.int .u8 0)], [(0, 1), (1, 1), (2, 1), (3, 1)]⟩ := ⟨by kernel_rfl, by kernel_rfl, by kernel_rfl, by kernel_rfl, ⟨rfl, ⟨rfl, ⟨rfl, ⟨rfl, trivial⟩⟩⟩⟩, (fun _ => by kernel_rfl), by kernel_rfl⟩
theorem ty_9 : TyOk Tryz.prog 9 ⟨false, 1, [.one (Value.string ⟨#[]⟩)], []⟩ := ⟨by kernel_rfl, by kernel_rfl, by kernel_rfl, by kernel_rfl, ⟨rfl, trivial⟩, (fun h => by cases h), by kernel_rfl⟩
theorem ty_10 : TyOk Tryz.prog 10 ⟨false, 1, [.one (Value.string ⟨#[]⟩)], []⟩ := ⟨by kernel_rfl, by kernel_rfl, by kernel_rfl, by kernel_rfl, ⟨rfl, trivial⟩, (fun h => by cases h), by kernel_rfl⟩
theorem ty_11 : TyOk Tryz.prog 11 ⟨false, 1, [.one (Value.string ⟨#[]⟩)], []⟩ := ⟨by kernel_rfl, by kernel_rfl, by kernel_rfl, by kernel_rfl, ⟨rfl, trivial⟩, (fun h => by cases h), by kernel_rfl⟩
theorem ty_12 : TyOk Tryz.prog 12 ⟨false, 1, [.one (Value.int .u64 0)], []⟩ := ⟨by kernel_rfl, by kernel_rfl, by kernel_rfl, by kernel_rfl, ⟨rfl, trivial⟩, (fun h => by cases h), by kernel_rfl⟩
theorem ty_13 : TyOk Tryz.prog 13 ⟨true, 2, [.one (Value.string ⟨#[]⟩), .one (Value.int .u64 0)], [(0, 1), (1, 1)]⟩ := ⟨by kernel_rfl, by kernel_rfl, by kernel_rfl, by kernel_rfl, ⟨rfl, ⟨rfl, trivial⟩⟩, (fun _ => by kernel_rfl), by kernel_rfl⟩
theorem ty_14 : TyOk Tryz.prog 14 ⟨true, 2, [.one (Value.string ⟨#[]⟩), .one (Value.int .u64 0)], [(0, 1), (1, 1)]⟩ := ⟨by kernel_rfl, by kernel_rfl, by kernel_rfl, by kernel_rfl, ⟨rfl, ⟨rfl, trivial⟩⟩, (fun _ => by kernel_rfl), by kernel_rfl⟩
theorem ty_15 : TyOk Tryz.prog 15 ⟨false, 1, [.one (Value.pointer none)], []⟩ := ⟨by kernel_rfl, by kernel_rfl, by kernel_rfl, by kernel_rfl, ⟨rfl, trivial⟩, (fun h => by cases h), by kernel_rfl⟩
theorem ty_16 : TyOk Tryz.prog 16 ⟨false, 1, [.one (Value.pointer none)], []⟩ := ⟨by kernel_rfl, by kernel_rfl, by kernel_rfl, by kernel_rfl, ⟨rfl, trivial⟩, (fun h => by cases h), by kernel_rfl⟩
theorem ty_17 : TyOk Tryz.prog 17 ⟨false, 1, [.one (Value.pointer none)], []⟩ := ⟨by kernel_rfl, by kernel_rfl, by kernel_rfl, by kernel_rfl, ⟨rfl, trivial⟩, (fun h => by cases h), by kernel_rfl⟩
theorem ty_18 : TyOk Tryz.prog 18 ⟨true, 1, [.one (Value.pointer none)], [(0, 1)]⟩ := ⟨by kernel_rfl, by kernel_rfl, by kernel_rfl, by kernel_rfl, ⟨rfl, trivial⟩, (fun _ => by kernel_rfl), by kernel_rfl⟩
theorem ty_19 : TyOk Tryz.prog 19 ⟨true, 1, [.one (Value.pointer none)], [(0, 1)]⟩ := ⟨by kernel_rfl, by kernel_rfl, by kernel_rfl, by kernel_rfl, ⟨rfl, trivial⟩, (fun _ => by kernel_rfl), by kernel_rfl⟩
theorem ty_23 : TyOk Tryz.prog 23 ⟨true, 16, [.one (Value.int .u8 0), .one (Value.int .u8 0), .one (Value.int .u8 0), .one (Value.int .u8 0), .one (Value.int .u8 0), .one (Value.int .u8 0), .one (Value.int .u8 0), .one (Value.int .u8 0), .one (Value.int .u8 0), .one (Value.int .u8 0), .one (Value.int .u8 0), .one (Value.int .u8 0), .one (Value.int .u8 0), .one (Value.int .u8 0), .one (Value.int .u8 0), .one (Value.int .u8 0)], [(0, 1), (1, 1), (2, 1), (3, 1), (4, 1), (5, 1), (6, 1), (7, 1), (8, 1), (9, 1), (10, 1), (11, 1), (12, 1), (13, 1), (14, 1), (15, 1)]⟩ := ⟨by kernel_rfl, by kernel_rfl, by kernel_rfl, by kernel_rfl, ⟨rfl, ⟨rfl, ⟨rfl, ⟨rfl, ⟨rfl, ⟨rfl, ⟨rfl, ⟨rfl, ⟨rfl, ⟨rfl, ⟨rfl, ⟨rfl, ⟨rfl, ⟨rfl, ⟨rfl, ⟨rfl, trivial⟩⟩⟩⟩⟩⟩⟩⟩⟩⟩⟩⟩⟩⟩⟩⟩, (fun _ => by kernel_rfl), by kernel_rfl⟩
theorem ty_24 : TyOk Tryz.prog 24 ⟨true, 17, [.one (Value.bool false), .many (zeroL Tryz.prog 23) 16], [(0, 1), (1, 16)]⟩ := ⟨by kernel_rfl, by kernel_rfl, by kernel_rfl, by kernel_rfl, ⟨rfl, ⟨OkA.z (by kernel_rfl) (by kernel_rfl), trivial⟩⟩, (fun _ => by kernel_rfl), by kernel_rfl⟩
theorem ty_25 : TyOk Tryz.prog 25 ⟨true, 17, [.one (Value.bool false), .many (zeroL Tryz.prog 23) 16], [(0, 1), (1, 16)]⟩ := ⟨by kernel_rfl, by kernel_rfl, by kernel_rfl, by kernel_rfl, ⟨rfl, ⟨OkA.z (by kernel_rfl) (by kernel_rfl), trivial⟩⟩, (fun _ => by kernel_rfl), by kernel_rfl⟩
theorem ty_26 : TyOk Tryz.prog 26 ⟨false, 1, [.one (Value.slice none 0 0)], []⟩ := ⟨by kernel_rfl, by kernel_rfl, by kernel_rfl, by kernel_rfl, ⟨rfl, trivial⟩, (fun h => by cases h), by kernel_rfl⟩
theorem ty_27 : TyOk Tryz.prog 27 ⟨false, 1, [.one (Value.slice none 0 0)], []⟩ := ⟨by kernel_rfl, by kernel_rfl, by kernel_rfl, by kernel_rfl, ⟨rfl, trivial⟩, (fun h => by cases h), by kernel_rfl⟩
theorem ty_28 : TyOk Tryz.prog 28 ⟨true, 26, [.one (Value.bool false), .one (Value.int .i64 0), .one (Value.int .i64 0), .one (Value.int .i64 0), .many (zeroL Tryz.prog 25) 17, .one (Value.bool false), .one (Value.int .i64 0), .one (Value.int .i64 0), .one (Value.slice none 0 0), .one (Value.slice none 0 0)], [(0, 1), (1, 1), (2, 1), (3, 1), (4, 17), (21, 1), (22, 1), (23, 1), (24, 1), (25, 1)]⟩ := ⟨by kernel_rfl, by kernel_rfl, by kernel_rfl, by kernel_rfl, ⟨rfl, ⟨rfl, ⟨rfl, ⟨rfl, ⟨OkA.z (by kernel_rfl) (by kernel_rfl), ⟨rfl, ⟨rfl, ⟨rfl, ⟨rfl, ⟨rfl, trivial⟩⟩⟩⟩⟩⟩⟩⟩⟩⟩, (fun _ => by kernel_rfl), by kernel_rfl⟩
theorem ty_29 : TyOk Tryz.prog 29 ⟨true, 26, [.one (Value.bool false), .one (Value.int .i64 0), .one (Value.int .i64 0), .one (Value.int .i64 0), .many (zeroL Tryz.prog 25) 17, .one (Value.bool false), .one (Value.int .i64 0), .one (Value.int .i64 0), .one (Value.slice none 0 0), .one (Value.slice none 0 0)], [(0, 1), (1, 1), (2, 1), (3, 1), (4, 17), (21, 1), (22, 1), (23, 1), (24, 1), (25, 1)]⟩ := ⟨by kernel_rfl, by kernel_rfl, by kernel_rfl, by kernel_rfl, ⟨rfl, ⟨rfl, ⟨rfl, ⟨rfl, ⟨OkA.z (by kernel_rfl) (by kernel_rfl), ⟨rfl, ⟨rfl, ⟨rfl, ⟨rfl, ⟨rfl, trivial⟩⟩⟩⟩⟩⟩⟩⟩⟩⟩, (fun _ => by kernel_rfl), by kernel_rfl⟩
theorem ty_30 : TyOk Tryz.prog 30 ⟨true, 65, [.one (Value.int .i64 0), .one (Value.int .i64 0), .many (zeroL Tryz.prog 25) 17, .many (zeroL Tryz.prog 25) 17, .many (zeroL Tryz.prog 29) 26, .one (Value.int .i64 0), .one (Value.int .i64 0), .one (Value.string ⟨#[]⟩)], [(0, 1), (1, 1), (2, 17), (19, 17), (36, 26), (62, 1), (63, 1), (64, 1)]⟩ := ⟨by kernel_rfl, by kernel_rfl, by kernel_rfl, by kernel_rfl, ⟨rfl, ⟨rfl, ⟨OkA.z (by kernel_rfl) (by kernel_rfl), ⟨OkA.z (by kernel_rfl) (by kernel_rfl), ⟨OkA.z (by kernel_rfl) (by kernel_rfl), ⟨rfl, ⟨rfl, ⟨rfl, trivial⟩⟩⟩⟩⟩⟩⟩⟩, (fun _ => by kernel_rfl), by kernel_rfl⟩
theorem ty_31 : TyOk Tryz.prog 31 ⟨true, 65, [.one (Value.int .i64 0), .one (Value.int .i64 0), .many (zeroL Tryz.prog 25) 17, .many (zeroL Tryz.prog 25) 17, .many (zeroL Tryz.prog 29) 26, .one (Value.int .i64 0), .one (Value.int .i64 0), .one (Value.string ⟨#[]⟩)], [(0, 1), (1, 1), (2, 17), (19, 17), (36, 26), (62, 1), (63, 1), (64, 1)]⟩ := ⟨by kernel_rfl, by kernel_rfl, by kernel_rfl, by kernel_rfl, ⟨rfl, ⟨rfl, ⟨OkA.z (by kernel_rfl) (by kernel_rfl), ⟨OkA.z (by kernel_rfl) (by kernel_rfl), ⟨OkA.z (by kernel_rfl) (by kernel_rfl), ⟨rfl, ⟨rfl, ⟨rfl, trivial⟩⟩⟩⟩⟩⟩⟩⟩, (fun _ => by kernel_rfl), by kernel_rfl⟩
theorem ty_32 : TyOk Tryz.prog 32 ⟨false, 1, [.one (Value.int .i64 0)], []⟩ := ⟨by kernel_rfl, by kernel_rfl, by kernel_rfl, by kernel_rfl, ⟨rfl, trivial⟩, (fun h => by cases h), by kernel_rfl⟩
theorem ty_39 : TyOk Tryz.prog 39 ⟨true, 6, [.one (Value.int .u8 0), .one (Value.int .u8 0), .one (Value.int .u8 0), .one (Value.int .u8 0), .one (Value.int .u8 0), .one (Value.int .u8 0)], [(0, 1), (1, 1), (2, 1), (3, 1), (4, 1), (5, 1)]⟩ := ⟨by kernel_rfl, by kernel_rfl, by kernel_rfl, by kernel_rfl, ⟨rfl, ⟨rfl, ⟨rfl, ⟨rfl, ⟨rfl, ⟨rfl, trivial⟩⟩⟩⟩⟩⟩, (fun _ => by kernel_rfl), by kernel_rfl⟩
theorem ty_40 : TyOk Tryz.prog 40 ⟨true, 6, [.one (Value.int .u8 0), .one (Value.int .u8 0), .one (Value.int .u8 0), .one (Value.int .u8 0), .one (Value.int .u8 0), .one (Value.int .u8 0)], [(0, 1), (1, 1), (2, 1), (3, 1), (4, 1), (5, 1)]⟩ := ⟨by kernel_rfl, by kernel_rfl, by kernel_rfl, by kernel_rfl, ⟨rfl, ⟨rfl, ⟨rfl, ⟨rfl, ⟨rfl, ⟨rfl, trivial⟩⟩⟩⟩⟩⟩, (fun _ => by kernel_rfl), by kernel_rfl⟩
theorem ty_46 : TyOk Tryz.prog 46 ⟨true, 17, [.many (zeroL Tryz.prog 40) 6, .many (zeroL Tryz.prog 40) 6, .one (Value.bool false), .one (Value.int .i64 0), .one (Value.int .i64 0), .one (Value.int .i64 0), .one (Value.string ⟨#[]⟩)], [(0, 6), (6, 6), (12, 1), (13, 1), (14, 1), (15, 1), (16, 1)]⟩ := ⟨by kernel_rfl, by kernel_rfl, by kernel_rfl, by kernel_rfl, ⟨OkA.z (by kernel_rfl) (by kernel_rfl), ⟨OkA.z (by kernel_rfl) (by kernel_rfl), ⟨rfl, ⟨rfl, ⟨rfl, ⟨rfl, ⟨rfl, trivial⟩⟩⟩⟩⟩⟩⟩, (fun _ => by kernel_rfl), by kernel_rfl⟩
theorem ty_47 : TyOk Tryz.prog 47 ⟨true, 17, [.many (zeroL Tryz.prog 40) 6, .many (zeroL Tryz.prog 40) 6, .one (Value.bool false), .one (Value.int .i64 0), .one (Value.int .i64 0), .one (Value.int .i64 0), .one (Value.string ⟨#[]⟩)], [(0, 6), (6, 6), (12, 1), (13, 1), (14, 1), (15, 1), (16, 1)]⟩ := ⟨by kernel_rfl, by kernel_rfl, by kernel_rfl, by kernel_rfl, ⟨OkA.z (by kernel_rfl) (by kernel_rfl), ⟨OkA.z (by kernel_rfl) (by kernel_rfl), ⟨rfl, ⟨rfl, ⟨rfl, ⟨rfl, ⟨rfl, trivial⟩⟩⟩⟩⟩⟩⟩, (fun _ => by kernel_rfl), by kernel_rfl⟩
theorem ty_50 : TyOk Tryz.prog 50 ⟨true, 66, [.many (zeroL Tryz.prog 31) 65, .one (Value.bool false)], [(0, 65), (65, 1)]⟩ := ⟨by kernel_rfl, by kernel_rfl, by kernel_rfl, by kernel_rfl, ⟨OkA.z (by kernel_rfl) (by kernel_rfl), ⟨rfl, trivial⟩⟩, (fun _ => by kernel_rfl), by kernel_rfl⟩
theorem ty_51 : TyOk Tryz.prog 51 ⟨true, 66, [.many (zeroL Tryz.prog 31) 65, .one (Value.bool false)], [(0, 65), (65, 1)]⟩ := ⟨by kernel_rfl, by kernel_rfl, by kernel_rfl, by kernel_rfl, ⟨OkA.z (by kernel_rfl) (by kernel_rfl), ⟨rfl, trivial⟩⟩, (fun _ => by kernel_rfl), by kernel_rfl⟩
theorem ty_59 : TyOk Tryz.prog 59 ⟨false, 1, [.one (Value.int .u64 0)], []⟩ := ⟨by kernel_rfl, by kernel_rfl, by kernel_rfl, by kernel_rfl, ⟨rfl, trivial⟩, (fun h => by cases h), by kernel_rfl⟩
theorem ty_61 : TyOk Tryz.prog 61 ⟨true, 40, [.one (Value.int .i64 0), .one (Value.int .i64 0), .one (Value.int .i64 0), .one (Value.int .i64 0), .many (zeroL Tryz.prog 25) 17, .many (zeroL Tryz.prog 25) 17, .one (Value.bool false), .one (Value.string ⟨#[]⟩)], [(0, 1), (1, 1), (2, 1), (3, 1), (4, 17), (21, 17), (38, 1), (39, 1)]⟩ := ⟨by kernel_rfl, by kernel_rfl, by kernel_rfl, by kernel_rfl, ⟨rfl, ⟨rfl, ⟨rfl, ⟨rfl, ⟨OkA.z (by kernel_rfl) (by kernel_rfl), ⟨OkA.z (by kernel_rfl) (by kernel_rfl), ⟨rfl, ⟨rfl, trivial⟩⟩⟩⟩⟩⟩⟩⟩, (fun _ => by kernel_rfl), by kernel_rfl⟩
theorem ty_62 : TyOk Tryz.prog 62 ⟨true, 40, [.one (Value.int .i64 0), .one (Value.int .i64 0), .one (Value.int .i64 0), .one (Value.int .i64 0), .many (zeroL Tryz.prog 25) 17, .many (zeroL Tryz.prog 25) 17, .one (Value.bool false), .one (Value.string ⟨#[]⟩)], [(0, 1), (1, 1), (2, 1), (3, 1), (4, 17), (21, 17), (38, 1), (39, 1)]⟩ := ⟨by kernel_rfl, by kernel_rfl, by kernel_rfl, by kernel_rfl, ⟨rfl, ⟨rfl, ⟨rfl, ⟨rfl, ⟨OkA.z (by kernel_rfl) (by kernel_rfl), ⟨OkA.z (by kernel_rfl) (by kernel_rfl), ⟨rfl, ⟨rfl, trivial⟩⟩⟩⟩⟩⟩⟩⟩, (fun _ => by kernel_rfl), by kernel_rfl⟩
theorem ty_65 : TyOk Tryz.prog 65 ⟨true, 40, [.one (Value.int .i64 0), .one (Value.int .i64 0), .one (Value.int .i64 0), .one (Value.int .i64 0), .many (zeroL Tryz.prog 25) 17, .many (zeroL Tryz.prog 25) 17, .one (Value.bool false), .one (Value.string ⟨#[]⟩)], [(0, 1), (1, 1), (2, 1), (3, 1), (4, 17), (21, 17), (38, 1), (39, 1)]⟩ := ⟨by kernel_rfl, by kernel_rfl, by kernel_rfl, by kernel_rfl, ⟨rfl, ⟨rfl, ⟨rfl, ⟨rfl, ⟨OkA.z (by kernel_rfl) (by kernel_rfl), ⟨OkA.z (by kernel_rfl) (by kernel_rfl), ⟨rfl, ⟨rfl, trivial⟩⟩⟩⟩⟩⟩⟩⟩, (fun _ => by kernel_rfl), by kernel_rfl⟩
theorem ty_66 : TyOk Tryz.prog 66 ⟨true, 40, [.one (Value.int .i64 0), .one (Value.int .i64 0), .one (Value.int .i64 0), .one (Value.int .i64 0), .many (zeroL Tryz.prog 25) 17, .many (zeroL Tryz.prog 25) 17, .one (Value.bool false), .one (Value.string ⟨#[]⟩)], [(0, 1), (1, 1), (2, 1), (3, 1), (4, 17), (21, 17), (38, 1), (39, 1)]⟩ := ⟨by kernel_rfl, by kernel_rfl, by kernel_rfl, by kernel_rfl, ⟨rfl, ⟨rfl, ⟨rfl, ⟨rfl, ⟨OkA.z (by kernel_rfl) (by kernel_rfl), ⟨OkA.z (by kernel_rfl) (by kernel_rfl), ⟨rfl, ⟨rfl, trivial⟩⟩⟩⟩⟩⟩⟩⟩, (fun _ => by kernel_rfl), by kernel_rfl⟩
theorem ty_84 : TyOk Tryz.prog 84 ⟨false, 1, [.one (Value.pointer none)], []⟩ := ⟨by kernel_rfl, by kernel_rfl, by kernel_rfl, by kernel_rfl, ⟨rfl, trivial⟩, (fun h => by cases h), by kernel_rfl⟩
theorem ty_90 : TyOk Tryz.prog 90 ⟨false, 1, [.one (Value.pointer none)], []⟩ := ⟨by kernel_rfl, by kernel_rfl, by kernel_rfl, by kernel_rfl, ⟨rfl, trivial⟩, (fun h => by cases h), by kernel_rfl⟩
theorem ty_114 : TyOk Tryz.prog 114 ⟨false, 1, [.one (Value.slice none 0 0)], []⟩ := ⟨by kernel_rfl, by kernel_rfl, by kernel_rfl, by kernel_rfl, ⟨rfl, trivial⟩, (fun h => by cases h), by kernel_rfl⟩
theorem ty_116 : TyOk Tryz.prog 116 ⟨false, 1, [.one (Value.int .u64 0)], []⟩ := ⟨by kernel_rfl, by kernel_rfl, by kernel_rfl, by kernel_rfl, ⟨rfl, trivial⟩, (fun h => by cases h), by kernel_rfl⟩
theorem ty_118 : TyOk Tryz.prog 118 ⟨true, 19, [.one (Value.int .i64 0), .many (zeroL Tryz.prog 25) 17, .one (Value.slice none 0 0)], [(0, 1), (1, 17), (18, 1)]⟩ := ⟨by kernel_rfl, by kernel_rfl, by kernel_rfl, by kernel_rfl, ⟨rfl, ⟨OkA.z (by kernel_rfl) (by kernel_rfl), ⟨rfl, trivial⟩⟩⟩, (fun _ => by kernel_rfl), by kernel_rfl⟩
theorem ty_119 : TyOk Tryz.prog 119 ⟨true, 19, [.one (Value.int .i64 0), .many (zeroL Tryz.prog 25) 17, .one (Value.slice none 0 0)], [(0, 1), (1, 17), (18, 1)]⟩ := ⟨by kernel_rfl, by kernel_rfl, by kernel_rfl, by kernel_rfl, ⟨rfl, ⟨OkA.z (by kernel_rfl) (by kernel_rfl), ⟨rfl, trivial⟩⟩⟩, (fun _ => by kernel_rfl), by kernel_rfl⟩
theorem ty_128 : TyOk Tryz.prog 128 ⟨true, 3, [.one (Value.string ⟨#[]⟩), .one (Value.int .i64 0), .one (Value.bool false)], [(0, 1), (1, 1), (2, 1)]⟩ := ⟨by kernel_rfl, by kernel_rfl, by kernel_rfl, by kernel_rfl, ⟨rfl, ⟨rfl, ⟨rfl, trivial⟩⟩⟩, (fun _ => by kernel_rfl), by kernel_rfl⟩
theorem ty_129 : TyOk Tryz.prog 129 ⟨true, 3, [.one (Value.string ⟨#[]⟩), .one (Value.int .i64 0), .one (Value.bool false)], [(0, 1), (1, 1), (2, 1)]⟩ := ⟨by kernel_rfl, by kernel_rfl, by kernel_rfl, by kernel_rfl, ⟨rfl, ⟨rfl, ⟨rfl, trivial⟩⟩⟩, (fun _ => by kernel_rfl), by kernel_rfl⟩
theorem ty_157 : TyOk Tryz.prog 157 ⟨false, 1, [.one (Value.pointer none)], []⟩ := ⟨by kernel_rfl, by kernel_rfl, by kernel_rfl, by kernel_rfl, ⟨rfl, trivial⟩, (fun h => by cases h), by kernel_rfl⟩
theorem ty_158 : TyOk Tryz.prog 158 ⟨true, 28, [.one (Value.pointer none), .many (zeroL Tryz.prog 29) 26, .one (Value.int .i64 0)], [(0, 1), (1, 26), (27, 1)]⟩ := ⟨by kernel_rfl, by kernel_rfl, by kernel_rfl, by kernel_rfl, ⟨rfl, ⟨OkA.z (by kernel_rfl) (by kernel_rfl), ⟨rfl, trivial⟩⟩⟩, (fun _ => by kernel_rfl), by kernel_rfl⟩
theorem ty_159 : TyOk Tryz.prog 159 ⟨true, 28, [.one (Value.pointer none), .many (zeroL Tryz.prog 29) 26, .one (Value.int .i64 0)], [(0, 1), (1, 26), (27, 1)]⟩ := ⟨by kernel_rfl, by kernel_rfl, by kernel_rfl, by kernel_rfl, ⟨rfl, ⟨OkA.z (by kernel_rfl) (by kernel_rfl), ⟨rfl, trivial⟩⟩⟩, (fun _ => by kernel_rfl), by kernel_rfl⟩
theorem ty_161 : TyOk Tryz.prog 161 ⟨false, 1, [.one (Value.pointer none)], []⟩ := ⟨by kernel_rfl, by kernel_rfl, by kernel_rfl, by kernel_rfl, ⟨rfl, trivial⟩, (fun h => by cases h), by kernel_rfl⟩
theorem ty_162 : TyOk Tryz.prog 162 ⟨true, 2, [.one (Value.pointer none), .one (Value.int .i64 0)], [(0, 1), (1, 1)]⟩ := ⟨by kernel_rfl, by kernel_rfl, by kernel_rfl, by kernel_rfl, ⟨rfl, ⟨rfl, trivial⟩⟩, (fun _ => by kernel_rfl), by kernel_rfl⟩
theorem ty_163 : TyOk Tryz.prog 163 ⟨true, 2, [.one (Value.pointer none), .one (Value.int .i64 0)], [(0, 1), (1, 1)]⟩ := ⟨by kernel_rfl, by kernel_rfl, by kernel_rfl, by kernel_rfl, ⟨rfl, ⟨rfl, trivial⟩⟩, (fun _ => by kernel_rfl), by kernel_rfl⟩
theorem ty_166 : TyOk Tryz.prog 166 ⟨false, 1, [.one (Value.pointer none)], []⟩ := ⟨by kernel_rfl, by kernel_rfl, by kernel_rfl, by kernel_rfl, ⟨rfl, trivial⟩, (fun h => by cases h), by kernel_rfl⟩
theorem ty_174 : TyOk Tryz.prog 174 ⟨false, 1, [.one (Value.slice none 0 0)], []⟩ := ⟨by kernel_rfl, by kernel_rfl, by kernel_rfl, by kernel_rfl, ⟨rfl, trivial⟩, (fun h => by cases h), by kernel_rfl⟩
theorem ty_184 : TyOk Tryz.prog 184 ⟨true, 2, [.one (Value.int .u64 0), .one (Value.int .i64 0)], [(0, 1), (1, 1)]⟩ := ⟨by kernel_rfl, by kernel_rfl, by kernel_rfl, by kernel_rfl, ⟨rfl, ⟨rfl, trivial⟩⟩, (fun _ => by kernel_rfl), by kernel_rfl⟩
theorem ty_185 : TyOk Tryz.prog 185 ⟨true, 2, [.one (Value.int .u64 0), .one (Value.int .i64 0)], [(0, 1), (1, 1)]⟩ := ⟨by kernel_rfl, by kernel_rfl, by kernel_rfl, by kernel_rfl, ⟨rfl, ⟨rfl, trivial⟩⟩, (fun _ => by kernel_rfl), by kernel_rfl⟩
theorem ty_188 : TyOk Tryz.prog 188 ⟨false, 1, [.one (Value.slice none 0 0)], []⟩ := ⟨by kernel_rfl, by kernel_rfl, by kernel_rfl, by kernel_rfl, ⟨rfl, trivial⟩, (fun h => by cases h), by kernel_rfl⟩
theorem ty_191 : TyOk Tryz.prog 191 ⟨false, 1, [.one (Value.int .u32 0)], []⟩ := ⟨by kernel_rfl, by kernel_rfl, by kernel_rfl, by kernel_rfl, ⟨rfl, trivial⟩, (fun h => by cases h), by kernel_rfl⟩
theorem ty_192 : TyOk Tryz.prog 192 ⟨true, 4, [.one (Value.pointer none), .one (Value.pointer none), .one (Value.pointer none), .one (Value.string ⟨#[]⟩)], [(0, 1), (1, 1), (2, 1), (3, 1)]⟩ := ⟨by kernel_rfl, by kernel_rfl, by kernel_rfl, by kernel_rfl, ⟨rfl, ⟨rfl, ⟨rfl, ⟨rfl, trivial⟩⟩⟩⟩, (fun _ => by kernel_rfl), by kernel_rfl⟩
theorem ty_193 : TyOk Tryz.prog 193 ⟨true, 4, [.one (Value.pointer none), .one (Value.pointer none), .one (Value.pointer none), .one (Value.string ⟨#[]⟩)], [(0, 1), (1, 1), (2, 1), (3, 1)]⟩ := ⟨by kernel_rfl, by kernel_rfl, by kernel_rfl, by kernel_rfl, ⟨rfl, ⟨rfl, ⟨rfl, ⟨rfl, trivial⟩⟩⟩⟩, (fun _ => by kernel_rfl), by kernel_rfl⟩
theorem ty_197 : TyOk Tryz.prog 197 ⟨false, 1, [.one (Value.int .u8 0)], []⟩ := ⟨by kernel_rfl, by kernel_rfl, by kernel_rfl, by kernel_rfl, ⟨rfl, trivial⟩, (fun h => by cases h), by kernel_rfl⟩
theorem ty_198 : TyOk Tryz.prog 198 ⟨false, 1, [.one (Value.int .u8 0)], []⟩ := ⟨by kernel_rfl, by kernel_rfl, by kernel_rfl, by kernel_rfl, ⟨rfl, trivial⟩, (fun h => by cases h), by kernel_rfl⟩
theorem ty_200 : TyOk Tryz.prog 200 ⟨false, 1, [.one (Value.pointer none)], []⟩ := ⟨by kernel_rfl, by kernel_rfl, by kernel_rfl, by kernel_rfl, ⟨rfl, trivial⟩, (fun h => by cases h), by kernel_rfl⟩
def tab (P : Program) : Tab := [(2, ⟨false, 1, [.one (Value.int .i64 0)], []⟩),
  (3, ⟨false, 1, [.one (Value.int .i64 0)], []⟩),
  (4, ⟨false, 1, [.one (Value.bool false)], []⟩),
  (5, ⟨false, 1, [.one (Value.int .u8 0)], []⟩),
  (6, ⟨false, 1, [.one (Value.int .u8 0)], []⟩),
  (7, ⟨true, 4, [.one (Value.int .i64 0), .one (Value.int .i64 0), .one (Value.bool false), .one (Value.int .u8 0)], [(0, 1), (1, 1), (2, 1), (3, 1)]⟩),
  (8, ⟨true, 4, [.one (Value.int .i64 0), .one (Value.int .i64 0), .one (Value.bool false), .one (Value.int .u8 0)], [(0, 1), (1, 1), (2, 1), (3, 1)]⟩),
  (9, ⟨false, 1, [.one (Value.string ⟨#[]⟩)], []⟩),
  (10, ⟨false, 1, [.one (Value.string ⟨#[]⟩)], []⟩),
  (11, ⟨false, 1, [.one (Value.string ⟨#[]⟩)], []⟩),
  (12, ⟨false, 1, [.one (Value.int .u64 0)], []⟩),
  (13, ⟨true, 2, [.one (Value.string ⟨#[]⟩), .one (Value.int .u64 0)], [(0, 1), (1, 1)]⟩),
  (14, ⟨true, 2, [.one (Value.string ⟨#[]⟩), .one (Value.int .u64 0)], [(0, 1), (1, 1)]⟩),
  (15, ⟨false, 1, [.one (Value.pointer none)], []⟩),
  (16, ⟨false, 1, [.one (Value.pointer none)], []⟩),
  (17, ⟨false, 1, [.one (Value.pointer none)], []⟩),
  (18, ⟨true, 1, [.one (Value.pointer none)], [(0, 1)]⟩),
  (19, ⟨true, 1, [.one (Value.pointer none)], [(0, 1)]⟩),
  (23, ⟨true, 16, [.one (Value.int .u8 0), .one (Value.int .u8 0), .one (Value.int .u8 0), .one (Value.int .u8 0), .one (Value.int .u8 0), .one (Value.int .u8 0), .one (Value.int .u8 0), .one (Value.int .u8 0), .one (Value.int .u8 0), .one (Value.int .u8 0), .one (Value.int .u8 0), .one (Value.int .u8 0), .one (Value.int .u8 0), .one (Value.int .u8 0), .one (Value.int .u8 0), .one (Value.int .u8 0)], [(0, 1), (1, 1), (2, 1), (3, 1), (4, 1), (5, 1), (6, 1), (7, 1), (8, 1), (9, 1), (10, 1), (11, 1), (12, 1), (13, 1), (14, 1), (15, 1)]⟩),
  (24, ⟨true, 17, [.one (Value.bool false), .many (zeroL P 23) 16], [(0, 1), (1, 16)]⟩),
  (25, ⟨true, 17, [.one (Value.bool false), .many (zeroL P 23) 16], [(0, 1), (1, 16)]⟩),
  (26, ⟨false, 1, [.one (Value.slice none 0 0)], []⟩),
  (27, ⟨false, 1, [.one (Value.slice none 0 0)], []⟩),
  (28, ⟨true, 26, [.one (Value.bool false), .one (Value.int .i64 0), .one (Value.int .i64 0), .one (Value.int .i64 0), .many (zeroL P 25) 17, .one (Value.bool false), .one (Value.int .i64 0), .one (Value.int .i64 0), .one (Value.slice none 0 0), .one (Value.slice none 0 0)], [(0, 1), (1, 1), (2, 1), (3, 1), (4, 17), (21, 1), (22, 1), (23, 1), (24, 1), (25, 1)]⟩),
  (29, ⟨true, 26, [.one (Value.bool false), .one (Value.int .i64 0), .one (Value.int .i64 0), .one (Value.int .i64 0), .many (zeroL P 25) 17, .one (Value.bool false), .one (Value.int .i64 0), .one (Value.int .i64 0), .one (Value.slice none 0 0), .one (Value.slice none 0 0)], [(0, 1), (1, 1), (2, 1), (3, 1), (4, 17), (21, 1), (22, 1), (23, 1), (24, 1), (25, 1)]⟩),
  (30, ⟨true, 65, [.one (Value.int .i64 0), .one (Value.int .i64 0), .many (zeroL P 25) 17, .many (zeroL P 25) 17, .many (zeroL P 29) 26, .one (Value.int .i64 0), .one (Value.int .i64 0), .one (Value.string ⟨#[]⟩)], [(0, 1), (1, 1), (2, 17), (19, 17), (36, 26), (62, 1), (63, 1), (64, 1)]⟩),
  (31, ⟨true, 65, [.one (Value.int .i64 0), .one (Value.int .i64 0), .many (zeroL P 25) 17, .many (zeroL P 25) 17, .many (zeroL P 29) 26, .one (Value.int .i64 0), .one (Value.int .i64 0), .one (Value.string ⟨#[]⟩)], [(0, 1), (1, 1), (2, 17), (19, 17), (36, 26), (62, 1), (63, 1), (64, 1)]⟩),
  (32, ⟨false, 1, [.one (Value.int .i64 0)], []⟩),
  (39, ⟨true, 6, [.one (Value.int .u8 0), .one (Value.int .u8 0), .one (Value.int .u8 0), .one (Value.int .u8 0), .one (Value.int .u8 0), .one (Value.int .u8 0)], [(0, 1), (1, 1), (2, 1), (3, 1), (4, 1), (5, 1)]⟩),
  (40, ⟨true, 6, [.one (Value.int .u8 0), .one (Value.int .u8 0), .one (Value.int .u8 0), .one (Value.int .u8 0), .one (Value.int .u8 0), .one (Value.int .u8 0)], [(0, 1), (1, 1), (2, 1), (3, 1), (4, 1), (5, 1)]⟩),
  (46, ⟨true, 17, [.many (zeroL P 40) 6, .many (zeroL P 40) 6, .one (Value.bool false), .one (Value.int .i64 0), .one (Value.int .i64 0), .one (Value.int .i64 0), .one (Value.string ⟨#[]⟩)], [(0, 6), (6, 6), (12, 1), (13, 1), (14, 1), (15, 1), (16, 1)]⟩),
  (47, ⟨true, 17, [.many (zeroL P 40) 6, .many (zeroL P 40) 6, .one (Value.bool false), .one (Value.int .i64 0), .one (Value.int .i64 0), .one (Value.int .i64 0), .one (Value.string ⟨#[]⟩)], [(0, 6), (6, 6), (12, 1), (13, 1), (14, 1), (15, 1), (16, 1)]⟩),
  (50, ⟨true, 66, [.many (zeroL P 31) 65, .one (Value.bool false)], [(0, 65), (65, 1)]⟩),
  (51, ⟨true, 66, [.many (zeroL P 31) 65, .one (Value.bool false)], [(0, 65), (65, 1)]⟩),
  (59, ⟨false, 1, [.one (Value.int .u64 0)], []⟩),
  (61, ⟨true, 40, [.one (Value.int .i64 0), .one (Value.int .i64 0), .one (Value.int .i64 0), .one (Value.int .i64 0), .many (zeroL P 25) 17, .many (zeroL P 25) 17, .one (Value.bool false), .one (Value.string ⟨#[]⟩)], [(0, 1), (1, 1), (2, 1), (3, 1), (4, 17), (21, 17), (38, 1), (39, 1)]⟩),
  (62, ⟨true, 40, [.one (Value.int .i64 0), .one (Value.int .i64 0), .one (Value.int .i64 0), .one (Value.int .i64 0), .many (zeroL P 25) 17, .many (zeroL P 25) 17, .one (Value.bool false), .one (Value.string ⟨#[]⟩)], [(0, 1), (1, 1), (2, 1), (3, 1), (4, 17), (21, 17), (38, 1), (39, 1)]⟩),
  (65, ⟨true, 40, [.one (Value.int .i64 0), .one (Value.int .i64 0), .one (Value.int .i64 0), .one (Value.int .i64 0), .many (zeroL P 25) 17, .many (zeroL P 25) 17, .one (Value.bool false), .one (Value.string ⟨#[]⟩)], [(0, 1), (1, 1), (2, 1), (3, 1), (4, 17), (21, 17), (38, 1), (39, 1)]⟩),
  (66, ⟨true, 40, [.one (Value.int .i64 0), .one (Value.int .i64 0), .one (Value.int .i64 0), .one (Value.int .i64 0), .many (zeroL P 25) 17, .many (zeroL P 25) 17, .one (Value.bool false), .one (Value.string ⟨#[]⟩)], [(0, 1), (1, 1), (2, 1), (3, 1), (4, 17), (21, 17), (38, 1), (39, 1)]⟩),
  (84, ⟨false, 1, [.one (Value.pointer none)], []⟩),
  (90, ⟨false, 1, [.one (Value.pointer none)], []⟩),
  (114, ⟨false, 1, [.one (Value.slice none 0 0)], []⟩),
  (116, ⟨false, 1, [.one (Value.int .u64 0)], []⟩),
  (118, ⟨true, 19, [.one (Value.int .i64 0), .many (zeroL P 25) 17, .one (Value.slice none 0 0)], [(0, 1), (1, 17), (18, 1)]⟩),
  (119, ⟨true, 19, [.one (Value.int .i64 0), .many (zeroL P 25) 17, .one (Value.slice none 0 0)], [(0, 1), (1, 17), (18, 1)]⟩),
  (128, ⟨true, 3, [.one (Value.string ⟨#[]⟩), .one (Value.int .i64 0), .one (Value.bool false)], [(0, 1), (1, 1), (2, 1)]⟩),
  (129, ⟨true, 3, [.one (Value.string ⟨#[]⟩), .one (Value.int .i64 0), .one (Value.bool false)], [(0, 1), (1, 1), (2, 1)]⟩),
  (157, ⟨false, 1, [.one (Value.pointer none)], []⟩),
  (158, ⟨true, 28, [.one (Value.pointer none), .many (zeroL P 29) 26, .one (Value.int .i64 0)], [(0, 1), (1, 26), (27, 1)]⟩),
  (159, ⟨true, 28, [.one (Value.pointer none), .many (zeroL P 29) 26, .one (Value.int .i64 0)], [(0, 1), (1, 26), (27, 1)]⟩),
  (161, ⟨false, 1, [.one (Value.pointer none)], []⟩),
  (162, ⟨true, 2, [.one (Value.pointer none), .one (Value.int .i64 0)], [(0, 1), (1, 1)]⟩),
  (163, ⟨true, 2, [.one (Value.pointer none), .one (Value.int .i64 0)], [(0, 1), (1, 1)]⟩),
  (166, ⟨false, 1, [.one (Value.pointer none)], []⟩),
  (174, ⟨false, 1, [.one (Value.slice none 0 0)], []⟩),
  (184, ⟨true, 2, [.one (Value.int .u64 0), .one (Value.int .i64 0)], [(0, 1), (1, 1)]⟩),
  (185, ⟨true, 2, [.one (Value.int .u64 0), .one (Value.int .i64 0)], [(0, 1), (1, 1)]⟩),
  (188, ⟨false, 1, [.one (Value.slice none 0 0)], []⟩),
  (191, ⟨false, 1, [.one (Value.int .u32 0)], []⟩),
  (192, ⟨true, 4, [.one (Value.pointer none), .one (Value.pointer none), .one (Value.pointer none), .one (Value.string ⟨#[]⟩)], [(0, 1), (1, 1), (2, 1), (3, 1)]⟩),
  (193, ⟨true, 4, [.one (Value.pointer none), .one (Value.pointer none), .one (Value.pointer none), .one (Value.string ⟨#[]⟩)], [(0, 1), (1, 1), (2, 1), (3, 1)]⟩),
  (197, ⟨false, 1, [.one (Value.int .u8 0)], []⟩),
  (198, ⟨false, 1, [.one (Value.int .u8 0)], []⟩),
  (200, ⟨false, 1, [.one (Value.pointer none)], []⟩)]
theorem tab_ok : TabOk Tryz.prog (tab Tryz.prog) := by
  intro p hp
  unfold tab at hp
  rcases List.mem_cons.1 hp with rfl | hp
  · exact ty_2
  rcases List.mem_cons.1 hp with rfl | hp
  · exact ty_3
  rcases List.mem_cons.1 hp with rfl | hp
  · exact ty_4
  rcases List.mem_cons.1 hp with rfl | hp
  · exact ty_5
  rcases List.mem_cons.1 hp with rfl | hp
  · exact ty_6
  rcases List.mem_cons.1 hp with rfl | hp
  · exact ty_7
  rcases List.mem_cons.1 hp with rfl | hp
  · exact ty_8
  rcases List.mem_cons.1 hp with rfl | hp
  · exact ty_9
  rcases List.mem_cons.1 hp with rfl | hp
  · exact ty_10
  rcases List.mem_cons.1 hp with rfl | hp
  · exact ty_11
  rcases List.mem_cons.1 hp with rfl | hp
  · exact ty_12
  rcases List.mem_cons.1 hp with rfl | hp
  · exact ty_13
  rcases List.mem_cons.1 hp with rfl | hp
  · exact ty_14
  rcases List.mem_cons.1 hp with rfl | hp
  · exact ty_15
  rcases List.mem_cons.1 hp with rfl | hp
  · exact ty_16
  rcases List.mem_cons.1 hp with rfl | hp
  · exact ty_17
  rcases List.mem_cons.1 hp with rfl | hp
  · exact ty_18
  rcases List.mem_cons.1 hp with rfl | hp
  · exact ty_19
  rcases List.mem_cons.1 hp with rfl | hp
  · exact ty_23
  rcases List.mem_cons.1 hp with rfl | hp
  · exact ty_24
  rcases List.mem_cons.1 hp with rfl | hp
  · exact ty_25
  rcases List.mem_cons.1 hp with rfl | hp
  · exact ty_26
  rcases List.mem_cons.1 hp with rfl | hp
  · exact ty_27
  rcases List.mem_cons.1 hp with rfl | hp
  · exact ty_28
  rcases List.mem_cons.1 hp with rfl | hp
  · exact ty_29
  rcases List.mem_cons.1 hp with rfl | hp
  · exact ty_30
  rcases List.mem_cons.1 hp with rfl | hp
  · exact ty_31
  rcases List.mem_cons.1 hp with rfl | hp
  · exact ty_32
  rcases List.mem_cons.1 hp with rfl | hp
  · exact ty_39
  rcases List.mem_cons.1 hp with rfl | hp
  · exact ty_40
  rcases List.mem_cons.1 hp with rfl | hp
  · exact ty_46
  rcases List.mem_cons.1 hp with rfl | hp
  · exact ty_47
  rcases List.mem_cons.1 hp with rfl | hp
  · exact ty_50
  rcases List.mem_cons.1 hp with rfl | hp
  · exact ty_51
  rcases List.mem_cons.1 hp with rfl | hp
  · exact ty_59
  rcases List.mem_cons.1 hp with rfl | hp
  · exact ty_61
  rcases List.mem_cons.1 hp with rfl | hp
  · exact ty_62
  rcases List.mem_cons.1 hp with rfl | hp
  · exact ty_65
  rcases List.mem_cons.1 hp with rfl | hp
  · exact ty_66
  rcases List.mem_cons.1 hp with rfl | hp
  · exact ty_84
  rcases List.mem_cons.1 hp with rfl | hp
  · exact ty_90
  rcases List.mem_cons.1 hp with rfl | hp
  · exact ty_114
  rcases List.mem_cons.1 hp with rfl | hp
  · exact ty_116
  rcases List.mem_cons.1 hp with rfl | hp
  · exact ty_118
  rcases List.mem_cons.1 hp with rfl | hp
  · exact ty_119
  rcases List.mem_cons.1 hp with rfl | hp
  · exact ty_128
  rcases List.mem_cons.1 hp with rfl | hp
  · exact ty_129
  rcases List.mem_cons.1 hp with rfl | hp
  · exact ty_157
  rcases List.mem_cons.1 hp with rfl | hp
  · exact ty_158
  rcases List.mem_cons.1 hp with rfl | hp
  · exact ty_159
  rcases List.mem_cons.1 hp with rfl | hp
  · exact ty_161
  rcases List.mem_cons.1 hp with rfl | hp
  · exact ty_162
  rcases List.mem_cons.1 hp with rfl | hp
  · exact ty_163
  rcases List.mem_cons.1 hp with rfl | hp
  · exact ty_166
  rcases List.mem_cons.1 hp with rfl | hp
  · exact ty_174
  rcases List.mem_cons.1 hp with rfl | hp
  · exact ty_184
  rcases List.mem_cons.1 hp with rfl | hp
  · exact ty_185
  rcases List.mem_cons.1 hp with rfl | hp
  · exact ty_188
  rcases List.mem_cons.1 hp with rfl | hp
  · exact ty_191
  rcases List.mem_cons.1 hp with rfl | hp
  · exact ty_192
  rcases List.mem_cons.1 hp with rfl | hp
  · exact ty_193
  rcases List.mem_cons.1 hp with rfl | hp
  · exact ty_197
  rcases List.mem_cons.1 hp with rfl | hp
  · exact ty_198
  rcases List.mem_cons.1 hp with rfl | hp
  · exact ty_200
  exact absurd hp (by simp)
end Go.Proofs.YtdnehjhijmeihaaGreat
namespace Go.Proofs.YtdnehjhijmeihaaGreat
open Go.ChangeShapes Go.WideShapes Go.ChangeAt Go.RowKit
set_option linter.unusedVariables false
set_option linter.unusedSimpArgs false
section
variable {P : Program} {B : Nat} {w0 W : World} {H H' : HB} {g : Nat} {t : TypeId} {b : Bool} {S S' : List Seg} {f : FuncId} {args : Array Value} {v : Value} {R : Ending → World → Prop}
theorem callM (i : Nat) (hH : Hp B w0 W H) (hi : nthH H i = some (g, t, true, S)) (hu : updH H i S' = some H') (hS' : okS S')
    (h : Row W g t (fls S).toArray → Calls P f args W fun e w' => e = .returned v ∧ Row w' g t (fls S').toArray ∧ W.grownBy w' (some g)) (hR : ∀ W', Hp B w0 W' H' → R (.returned v) W') : Calls P f args W R :=
  (h (hH.rows.mem hi).1).mono fun _ _ ⟨he, hr, hg⟩ => by subst he; exact hR _ (hH.upd hi hu hS' hr hg)
theorem callR (i : Nat) (hH : Hp B w0 W H) (hi : nthH H i = some (g, t, b, S)) (h : Row W g t (fls S).toArray → Gives P f args W v) (hR : ∀ W', Hp B w0 W' H → R (.returned v) W') : Calls P f args W R :=
  (h (hH.rows.mem hi).1).to.mono fun _ _ ⟨he, hb⟩ => by subst he; exact hR _ (hH.keep hb)
variable {s : ByteArray} {k : Nat} {bad : Bool} {n : Int}
theorem hNew (hH : Hp B w0 W H) (hR : ∀ W' g, Hp B w0 W' ((g, 129, true, [.one (.string s), .one (.int .i64 ((0 : Nat) : Int)), .one (.bool false)]) :: H) → R (.returned (.pointer (some ⟨g, 0, none⟩))) W') : Calls Tryz.prog 47 #[.string s] W R :=
  new_any.mono fun _ _ ⟨he, hw⟩ => by subst he; subst hw; exact hR _ _ (hH.alloc _ (S := [.one (.string s), .one (.int .i64 ((0 : Nat) : Int)), .one (.bool false)]) ⟨rfl, rfl, rfl, trivial⟩)
theorem rdOk (h : k + n.toNat ≤ s.size) : rdS s k false n.toNat = s.extract k (k + n.toNat) ∧ rdK s k false n.toNat = k + n.toNat ∧ rdB s k false n.toNat = false := by
  have e : rdFits s k false n.toNat = true := by simp [rdFits, h]
  simp [rdS, rdK, rdB, e]
theorem rdNo (h : s.size < k + n.toNat) : rdS s k false n.toNat = ⟨#[]⟩ ∧ rdK s k false n.toNat = k ∧ rdB s k false n.toNat = true := by
  have e : rdFits s k false n.toNat = false := by simp [rdFits]; omega
  simp [rdS, rdK, rdB, e]
theorem rdBad (m : Nat) : rdS s k true m = ⟨#[]⟩ ∧ rdK s k true m = k ∧ rdB s k true m = true := by
  have e : rdFits s k true m = false := by simp [rdFits]
  simp [rdS, rdK, rdB, e]
theorem wn8 (h1 : 0 ≤ n) (h2 : n ≤ 8) : wn n 8 = n.toNat := by unfold wn within; split <;> (try split) <;> omega
/-- the number that n bytes from k on are -/
def numAt (s : ByteArray) (k n : Nat) : Nat := numL ((s.data.toList.drop k).take n)
theorem numAt_lt (s : ByteArray) (k n : Nat) : numAt s k n < 256 ^ n := Nat.lt_of_lt_of_le (numL_lt _) (Nat.pow_le_pow_right (by omega) (by rw [List.length_take]; omega))
/-- so many bytes, if there are as many -/
theorem hNum (i : Nat) (hH : Hp B w0 W H) (hi : nthH H i = some (g, 129, true, [.one (.string s), .one (.int .i64 (k : Int)), .one (.bool false)])) (hu : updH H i [.one (.string s), .one (.int .i64 ((k + n.toNat : Nat) : Int)), .one (.bool false)] = some H')
    (h : k + n.toNat ≤ s.size) (h1 : 0 ≤ n) (h2 : n ≤ 8) (hs : s.size ≤ 9223372036854775807) (hR : ∀ W', Hp B w0 W' H' → R (.returned (.int .u64 (numAt s k n.toNat : Int))) W') : Calls Tryz.prog 49 #[.pointer (some ⟨g, 0, none⟩), .int .i64 n] W R := by
  refine callM i hH hi hu ⟨rfl, rfl, rfl, trivial⟩ (fun hr => ?_) hR
  have := Num_any (n := n) hr hs (by omega)
  obtain ⟨e1, e2, e3⟩ := rdOk h
  rw [wn8 h1 h2, e1, e2, e3, toList_extract, Nat.add_sub_cancel_left] at this
  exact this
theorem hNumNo (i : Nat) (hH : Hp B w0 W H) (hi : nthH H i = some (g, 129, true, [.one (.string s), .one (.int .i64 (k : Int)), .one (.bool false)])) (hu : updH H i [.one (.string s), .one (.int .i64 (k : Int)), .one (.bool true)] = some H')
    (hk : k ≤ s.size) (h : s.size < k + n.toNat) (h1 : 0 ≤ n) (h2 : n ≤ 8) (hs : s.size ≤ 9223372036854775807) (hR : ∀ W', Hp B w0 W' H' → R (.returned (.int .u64 0)) W') : Calls Tryz.prog 49 #[.pointer (some ⟨g, 0, none⟩), .int .i64 n] W R := by
  refine callM i hH hi hu ⟨rfl, rfl, rfl, trivial⟩ (fun hr => ?_) hR
  have := Num_any (n := n) hr hs hk
  obtain ⟨e1, e2, e3⟩ := rdNo h
  rw [wn8 h1 h2, e1, e2, e3] at this
  exact this
theorem hNumBad (i : Nat) (hH : Hp B w0 W H) (hi : nthH H i = some (g, 129, true, [.one (.string s), .one (.int .i64 (k : Int)), .one (.bool true)])) (hu : updH H i [.one (.string s), .one (.int .i64 (k : Int)), .one (.bool true)] = some H')
    (hk : k ≤ s.size) (hs : s.size ≤ 9223372036854775807) (hR : ∀ W', Hp B w0 W' H' → R (.returned (.int .u64 0)) W') : Calls Tryz.prog 49 #[.pointer (some ⟨g, 0, none⟩), .int .i64 n] W R := by
  refine callM i hH hi hu ⟨rfl, rfl, rfl, trivial⟩ (fun hr => ?_) hR
  have := Num_any (n := n) hr hs hk
  obtain ⟨e1, e2, e3⟩ := rdBad (s := s) (k := k) (wn n 8)
  rw [e1, e2, e3] at this
  exact this
theorem hTake (i : Nat) (hH : Hp B w0 W H) (hi : nthH H i = some (g, 129, true, [.one (.string s), .one (.int .i64 (k : Int)), .one (.bool false)])) (hu : updH H i [.one (.string s), .one (.int .i64 ((k + n.toNat : Nat) : Int)), .one (.bool false)] = some H')
    (h : k + n.toNat ≤ s.size) (h2 : n ≤ 9223372036854775807) (hs : s.size ≤ 9223372036854775807) (hR : ∀ W', Hp B w0 W' H' → R (.returned (.string (s.extract k (k + n.toNat)))) W') : Calls Tryz.prog 101 #[.pointer (some ⟨g, 0, none⟩), .int .i64 n] W R := by
  refine callM i hH hi hu ⟨rfl, rfl, rfl, trivial⟩ (fun hr => ?_) hR
  have := Take_any (n := n) hr hs (by omega) h2
  obtain ⟨e1, e2, e3⟩ := rdOk h
  rw [e1, e2, e3] at this
  exact this
theorem hTakeNo (i : Nat) (hH : Hp B w0 W H) (hi : nthH H i = some (g, 129, true, [.one (.string s), .one (.int .i64 (k : Int)), .one (.bool false)])) (hu : updH H i [.one (.string s), .one (.int .i64 (k : Int)), .one (.bool true)] = some H')
    (hk : k ≤ s.size) (h : s.size < k + n.toNat) (h2 : n ≤ 9223372036854775807) (hs : s.size ≤ 9223372036854775807) (hR : ∀ W', Hp B w0 W' H' → R (.returned (.string ⟨#[]⟩)) W') : Calls Tryz.prog 101 #[.pointer (some ⟨g, 0, none⟩), .int .i64 n] W R := by
  refine callM i hH hi hu ⟨rfl, rfl, rfl, trivial⟩ (fun hr => ?_) hR
  have := Take_any (n := n) hr hs hk h2
  obtain ⟨e1, e2, e3⟩ := rdNo h
  rw [e1, e2, e3] at this
  exact this
theorem hTakeBad (i : Nat) (hH : Hp B w0 W H) (hi : nthH H i = some (g, 129, true, [.one (.string s), .one (.int .i64 (k : Int)), .one (.bool true)])) (hu : updH H i [.one (.string s), .one (.int .i64 (k : Int)), .one (.bool true)] = some H')
    (hk : k ≤ s.size) (h2 : n ≤ 9223372036854775807) (hs : s.size ≤ 9223372036854775807) (hR : ∀ W', Hp B w0 W' H' → R (.returned (.string ⟨#[]⟩)) W') : Calls Tryz.prog 101 #[.pointer (some ⟨g, 0, none⟩), .int .i64 n] W R := by
  refine callM i hH hi hu ⟨rfl, rfl, rfl, trivial⟩ (fun hr => ?_) hR
  have := Take_any (n := n) hr hs hk h2
  obtain ⟨e1, e2, e3⟩ := rdBad (s := s) (k := k) n.toNat
  rw [e1, e2, e3] at this
  exact this
theorem hBad (i : Nat) (hH : Hp B w0 W H) (hi : nthH H i = some (g, 129, true, [.one (.string s), .one (.int .i64 (k : Int)), .one (.bool bad)])) (hR : ∀ W', Hp B w0 W' H → R (.returned (.bool bad)) W') : Calls Tryz.prog 52 #[.pointer (some ⟨g, 0, none⟩)] W R :=
  callR i hH hi (fun hr => Bad_any hr) hR
theorem hLeft (i : Nat) (hH : Hp B w0 W H) (hi : nthH H i = some (g, 129, true, [.one (.string s), .one (.int .i64 (k : Int)), .one (.bool bad)])) (hk : k ≤ s.size) (hs : s.size ≤ 9223372036854775807) (hR : ∀ W', Hp B w0 W' H → R (.returned (.int .i64 ((s.size - k : Nat) : Int))) W') : Calls Tryz.prog 187 #[.pointer (some ⟨g, 0, none⟩)] W R :=
  callR i hH hi (fun hr => Left_any hr hs hk) hR
end
def ClosedK (ops : Array Oper) (listed : Array Bool) : Prop := ∀ k o, ops[k]? = some o → listed.getD k false = true → ∀ e ∈ o.after, Region.binds .any e = true → listed.getD e.on false = true
def waitsK (ops : Array Oper) (i : Nat) : Nat → Nat → Bool
  | 0, _ => false
  | n + 1, j => match ops[j]? with
    | some o => o.after.any fun e => Region.binds .any e && (e.on == i || waitsK ops i n e.on)
    | none => false
section
variable {P : Program} {ops : Array Oper} {Q : Exit → Act → World → Prop} {S : World → Prop} {nb : List Nat}
theorem waits_listed {listed : Array Bool} (hc : ClosedK ops listed) {i : Nat} : ∀ (n j : Nat), waitsK ops i n j = true → (∀ o, ops[j]? = some o → ∀ e ∈ o.after, Region.binds .any e = true → listed.getD e.on false = true) → listed.getD i false = true
  | 0, j, h, _ => by simp [waitsK] at h
  | n + 1, j, h, hj => by
    unfold waitsK at h
    cases ho : ops[j]? with
    | none => rw [ho] at h; simp at h
    | some o =>
      rw [ho] at h
      simp only at h
      obtain ⟨k, hk, he⟩ := Array.any_eq_true.1 h
      generalize hee : o.after[k] = e at he
      have hm : e ∈ o.after := by rw [← hee]; exact Array.getElem_mem hk
      rw [Bool.and_eq_true, Bool.or_eq_true] at he
      obtain ⟨hb, he⟩ := he
      have hl := hj o ho e hm hb
      rcases he with he | he
      · rw [beq_iff_eq] at he
        rw [← he]
        exact hl
      · exact waits_listed hc n e.on he (fun o' ho' => hc e.on o' ho' hl)
theorem closed_set {listed : Array Bool} (hc : ClosedK ops listed) {i : Nat} (hr : i ∈ Region.ready .any ops listed) : ClosedK ops (listed.setIfInBounds i true) := by
  intro k o ho hk e he hb
  by_cases hki : i = k
  · subst hki
    obtain ⟨_, o', ho', hall⟩ := mem_ready.1 hr
    rw [ho] at ho'
    obtain rfl := Option.some.inj ho'
    exact getD_set_true (hall e he hb)
  · rw [getD_set_ne false hki] at hk
    exact getD_set_true (hc k o ho hk e he hb)
theorem closed_none (n : Nat) : ClosedK ops (Array.replicate n false) := by
  intro k o _ hk
  simp [Array.getElem?_replicate] at hk
  split at hk <;> simp at hk
def wpAnyK (P : Program) (ops : Array Oper) (Q : Exit → Act → World → Prop) (S : World → Prop) (nb : List Nat) : Nat → Array Bool → Act → World → Prop
  | 0, listed, a, w => Region.ready .any ops listed = [] ∧ Q .normal a w
  | fuel + 1, listed, a, w =>
    (Region.ready .any ops listed = [] → Q .normal a w) ∧
    ∀ i ∈ Region.ready .any ops listed, wpOp P ops Q i (fun a' w' => (nb.contains i = false → S w → S w') ∧ wpAnyK P ops Q S nb fuel (listed.setIfInBounds i true) a' w') a w
theorem wpAny_of_K : ∀ (fuel : Nat) (listed : Array Bool) (a : Act) (w : World), wpAnyK P ops Q S nb fuel listed a w → wpAny P .any ops Q fuel listed a w
  | 0, _, _, _, h => h
  | fuel + 1, _, _, _, h => ⟨h.1, fun i hi => wpOp_mono (fun a' w' h' => wpAny_of_K fuel _ a' w' h'.2) (h.2 i hi)⟩
theorem wpAnyK_first {T : World → Prop} {i : Nat} {oi : Oper} {v : Value} (hi : ops[i]? = some oi) (hsel : ∀ (j : Nat) (o : Oper) cs b, ops[j]? = some o → o.op ≠ .select cs b)
    (hQ : ∀ c a w, Q (.panic c) (a.put oi.dst v) w → Q (.panic c) a w)
    (hT : ∀ (listed : Array Bool) (j : Nat) (w w' : World), ClosedK ops listed → j ∈ Region.ready .any ops listed → listed.getD i true = false → T w → (nb.contains j = false → S w → S w') → T w') :
    ∀ (fuel : Nat) (listed : Array Bool) (a : Act) (w : World), ClosedK ops listed →
      (∀ j oj, ops[j]? = some oj → j ≠ i → listed.getD j true = false → (∀ e ∈ oj.after, Region.binds .any e = true → e.on ≠ i) → oi.apart ops oj = true) →
      i ∈ Region.ready .any ops listed → YieldsIf P ops T oi v a → T w →
      wpAnyK P ops Q S nb fuel (listed.setIfInBounds i true) (a.put oi.dst v) w → wpAnyK P ops Q S nb (fuel + 1) listed a w := by
  intro fuel
  induction fuel with
  | zero =>
    intro listed a w _ _ hr hy hTw H
    refine ⟨fun h => (by rw [h] at hr; cases hr), fun j hj => ?_⟩
    by_cases hji : j = i
    · subst hji; exact hy.wpOp hi hTw ⟨fun _ h => h, H⟩
    · have := ready_mono hj hji
      rw [H.1] at this
      cases this
  | succ fuel ih =>
    intro listed a w hc hfree hr hy hTw H
    refine ⟨fun h => (by rw [h] at hr; cases hr), fun j hj => ?_⟩
    by_cases hji : j = i
    · subst hji; exact hy.wpOp hi hTw ⟨fun _ h => h, H⟩
    · have h1 := H.2 j (ready_mono hj hji)
      obtain ⟨hjun, oj, hoj, hall⟩ := mem_ready.1 hj
      have hiun := (mem_ready.1 hr).1
      have hnot : ∀ e ∈ oj.after, Region.binds .any e = true → e.on ≠ i := fun e he hb heq => by
        have h1 := hall e he hb
        rw [heq] at h1
        rcases Nat.lt_or_ge i listed.size with h' | h'
        · simp [h'] at hiun h1; rw [hiun] at h1; cases h1
        · simp [Array.getElem?_eq_none h'] at h1
      have h2 := wpOp_putIf hoj (hfree j oj hoj hji hjun hnot) (fun cs b => hsel i oi cs b hi) (fun cs b => hsel j oj cs b hoj) hQ hy h1
      refine wpOp_mono (fun a' w' h3 => ⟨h3.2.1, ?_⟩) h2
      have hT' : T w' := hT listed j w w' hc hj hiun hTw h3.2.1
      refine ih (listed.setIfInBounds j true) a' w' (closed_set hc hj) (fun k ok hk hki hun hno => ?_) (ready_mono hr (Ne.symm hji)) h3.1 hT' ?_
      · refine hfree k ok hk hki ?_ hno
        by_cases hjk : j = k
        · subst hjk; exact hjun
        · rw [getD_set_ne true hjk] at hun; exact hun
      · rw [Array.setIfInBounds_comm _ _ hji]
        exact h3.2.2
theorem wpAnyK_done {listed : Array Bool} {a : Act} {w : World} (hr : Region.ready .any ops listed = []) (h : Q .normal a w) : ∀ fuel, wpAnyK P ops Q S nb fuel listed a w
  | 0 => ⟨hr, h⟩
  | _ + 1 => ⟨fun _ => h, by rw [hr]; simp⟩
end
section
variable {P : Program} {B : Nat} {w0 W : World} {H H0 : HB} {a : Act} {Q : Exit → Act → World → Prop} {l : List Oper} {fuel : Nat} {listed : Array Bool} {nb : List Nat}
def WMK (P : Program) (l : List Oper) (Q : Exit → Act → World → Prop) (B : Nat) (w0 : World) (H0 : HB) (nb : List Nat) (fuel : Nat) (listed : Array Bool) (a : Act) (w : World) : Prop :=
  ClosedK l.toArray listed → wpAnyK P l.toArray Q (fun W' => ∃ y : HW B w0 H0, W' = y.w) nb fuel listed a w
theorem regK {id : Nat} (nb : List Nat) (hH : Hp B w0 W H) (_hS : SubH H H0) (hm : P.follows .mixedOrders = true) (h : ∀ W', Hp B w0 W' H → WMK P l Q B w0 H0 nb l.length (Array.replicate l.length false) a W') : (Code.region id l.toArray true).wp P Q a W :=
  wp_region_any hm (by have := wpAny_of_K _ _ _ _ (h _ hH.drew (closed_none _)); simpa using this)
theorem yields_of {o : Oper} {C : World → Prop} (hk : valueKindH o = true) (hw : Region.wanted o (yielded l.toArray a.tmps) = true) {v : Value} (h1 : ∀ w, C w → o.quietAt P a C w v) : YieldsIf P l.toArray C o v a := by
  refine Or.inl ⟨hw, fun w1 hw1 => ?_⟩
  have h3 := h1 w1 hw1
  unfold Oper.quietAt at h3
  cases hrun : (execOp a.eval o).run P w1 with
  | ok n w2 =>
    obtain ⟨u, rfl⟩ := exec_valueH hk hrun
    rw [hrun] at h3
    obtain ⟨e1, e2⟩ := h3
    rw [e1, e2]
  | halt x w2 => rw [hrun] at h3; exact h3.elim
def kOk (l : List Oper) (listed : Array Bool) (i : Nat) : Bool := Region.free .any l.toArray listed i && ((Region.ready .any l.toArray listed).contains i && (match l[i]? with | some o => valueKindH o | none => false))
theorem hk_take {o : Oper} {C : World → Prop} (i : Nat) (ho : l[i]? = some o) (hs : Region.noSelect l.toArray = true) (hf : kOk l listed i = true) (hQ : ∀ c a v w, Q (.panic c) (a.put o.dst v) w → Q (.panic c) a w)
    (hT : ∀ (listed : Array Bool) (j : Nat) (w w' : World), ClosedK l.toArray listed → j ∈ Region.ready .any l.toArray listed → listed.getD i true = false → C w → (nb.contains j = false → (∃ y : HW B w0 H0, w = y.w) → (∃ y : HW B w0 H0, w' = y.w)) → C w') (hC : C W)
    (h : wpQuiet P l.toArray C (fun a' => WMK P l Q B w0 H0 nb fuel (listed.setIfInBounds i true) a' W) [o] a) : WMK P l Q B w0 H0 nb (fuel + 1) listed a W := by
  intro hc
  unfold kOk at hf
  simp only [Bool.and_eq_true, ho] at hf
  obtain ⟨hf, hr, hk⟩ := hf
  have hr' : i ∈ Region.ready .any l.toArray listed := by simpa using hr
  have ho' : l.toArray[i]? = some o := by simpa using ho
  unfold wpQuiet at h
  by_cases hw : Region.wanted o (yielded l.toArray a.tmps) = true
  · rw [if_pos hw] at h
    obtain ⟨v, h1, h2⟩ := h
    exact wpAnyK_first ho' (Region.noSelect_spec hs) (fun c a w => hQ c a v w) hT fuel listed a W hc (Region.free_spec ho' hf) hr' (yields_of hk hw h1) hC (h2 (closed_set hc hr'))
  · rw [if_neg hw] at h
    exact wpAnyK_first (v := undef) ho' (Region.noSelect_spec hs) (fun c a w => hQ c a undef w) hT fuel listed a W hc (Region.free_spec ho' hf) hr' (Or.inr ⟨by simpa using hw, rfl⟩) hC (h (closed_set hc hr'))
def pureOk (l : List Oper) : Array Bool → List Nat → Bool
  | _, [] => true
  | listed, i :: ix => kOk l listed i && pureOk l (listed.setIfInBounds i true) ix
def loadOk (l : List Oper) (nb : List Nat) : Array Bool → List Nat → Bool
  | _, [] => true
  | listed, i :: ix => kOk l listed i && (nb.all (fun j => waitsK l.toArray i l.length j) && loadOk l nb (listed.setIfInBounds i true) ix)
theorem hk_pures {ix : List Nat} {os : List Oper} (hp : PickR l ix os) (hs : Region.noSelect l.toArray = true) (hc : pureOk l listed ix = true) (hQ : ∀ c a v w (t : Tmp), Q (.panic c) (a.put (some t) v) w → Q (.panic c) a w)
    (h : wpQuiet P l.toArray (fun _ => True) (fun a' => WMK P l Q B w0 H0 nb fuel (setAllB listed ix) a' W) os a) : WMK P l Q B w0 H0 nb (fuel + ix.length) listed a W := by
  induction hp generalizing listed a with
  | nil => exact h
  | @cons i o ix os ho hp ih =>
    unfold pureOk at hc
    rw [Bool.and_eq_true] at hc
    have e : fuel + (i :: ix).length = (fuel + ix.length) + 1 := by simp; omega
    rw [e]
    refine hk_take (C := fun _ => True) i ho hs hc.1 (fun c a v w hq => by
      cases hd : o.dst with
      | none => rw [hd] at hq; exact hq
      | some t => rw [hd] at hq; exact hQ c a v w t hq) (fun _ _ _ _ _ _ _ _ _ => trivial) trivial ?_
    unfold wpQuiet at h ⊢
    split
    · rename_i hw
      rw [if_pos hw] at h
      obtain ⟨v, h1, h2⟩ := h
      exact ⟨v, h1, ih hc.2 h2⟩
    · rename_i hw
      rw [if_neg hw] at h
      exact ih hc.2 h
theorem hk_loads {ix : List Nat} {os : List Oper} (hp : PickR l ix os) (hs : Region.noSelect l.toArray = true) (hc : loadOk l nb listed ix = true) (hQ : ∀ c a v w (t : Tmp), Q (.panic c) (a.put (some t) v) w → Q (.panic c) a w) (hH : Hp B w0 W H) (hS : SubH H H0)
    (h : ∀ [Nonempty (HW B w0 H0)], wpQuiet P l.toArray (fun W' => ∃ y : HW B w0 H0, W' = y.w) (fun a' => WMK P l Q B w0 H0 nb fuel (setAllB listed ix) a' W) os a) : WMK P l Q B w0 H0 nb (fuel + ix.length) listed a W := by
  haveI : Nonempty (HW B w0 H0) := ⟨⟨W, hH.sub hS⟩⟩
  have h := @h this
  have hSS : ∃ y : HW B w0 H0, W = y.w := ⟨⟨W, hH.sub hS⟩, rfl⟩
  induction hp generalizing listed a with
  | nil => exact h
  | @cons i o ix os ho hp ih =>
    unfold loadOk at hc
    rw [Bool.and_eq_true, Bool.and_eq_true] at hc
    obtain ⟨hc1, hc2, hc3⟩ := hc
    have e : fuel + (i :: ix).length = (fuel + ix.length) + 1 := by simp; omega
    rw [e]
    refine hk_take (C := fun W' => ∃ y : HW B w0 H0, W' = y.w) i ho hs hc1 (fun c a v w hq => by
      cases hd : o.dst with
      | none => rw [hd] at hq; exact hq
      | some t => rw [hd] at hq; exact hQ c a v w t hq) (fun lst j w w' hcl hj hun hCw hk => ?_) hSS ?_
    · refine hk ?_ hCw
      by_cases hn : nb.contains j = true
      · have hw := List.all_eq_true.1 hc2 j (by simpa using hn)
        obtain ⟨_, oj, hoj, hall⟩ := mem_ready.1 hj
        have := waits_listed hcl _ j hw (fun o' ho' => by rw [hoj] at ho'; obtain rfl := Option.some.inj ho'; exact hall)
        exfalso
        rcases Nat.lt_or_ge i lst.size with h' | h'
        · simp [h'] at hun this; rw [hun] at this; cases this
        · simp [Array.getElem?_eq_none h'] at this
      · simpa using hn
    · unfold wpQuiet at h ⊢
      split
      · rename_i hw
        rw [if_pos hw] at h
        obtain ⟨v, h1, h2⟩ := h
        exact ⟨v, h1, ih hc3 (fun {_} => h2) h2⟩
      · rename_i hw
        rw [if_neg hw] at h
        exact ih hc3 (fun {_} => h) h
theorem hk_nil {C : World → Prop} {ops' : Array Oper} (h : WMK P l Q B w0 H0 nb fuel listed a W) : wpQuiet P ops' C (fun a' => WMK P l Q B w0 H0 nb fuel listed a' W) [] a := h
def hkQ (P : Program) (l : List Oper) (Q : Exit → Act → World → Prop) (B : Nat) (w0 : World) (H0 : HB) (nb : List Nat) (br : Bool) (fuel : Nat) (listed : Array Bool) : Exit → Act → World → Prop
  | .normal, a, w => (br = false → ∃ y : HW B w0 H0, w = y.w) ∧ WMK P l Q B w0 H0 nb fuel listed a w
  | e, a, w => Q e a w
theorem hkQ_normal (hH : Hp B w0 W H) (hS : SubH H H0) (h2 : WMK P l Q B w0 H0 nb fuel listed a W) : hkQ P l Q B w0 H0 nb false fuel listed .normal a W := ⟨fun _ => ⟨⟨W, hH.sub hS⟩, rfl⟩, h2⟩
theorem hkQ_break (h2 : WMK P l Q B w0 H0 nb fuel listed a W) : hkQ P l Q B w0 H0 nb true fuel listed .normal a W := ⟨fun h => (by cases h), h2⟩
theorem hk_op {o : Oper} (i : Nat) (ho : l[i]? = some o) (hr : i ∈ Region.ready .any l.toArray listed) (hc : ClosedK l.toArray listed) (h : wpList P l.toArray (hkQ P l Q B w0 H0 nb (nb.contains i) fuel (listed.setIfInBounds i true)) [o] a W) :
    wpOp P l.toArray Q i (fun a' w' => (nb.contains i = false → (∃ y : HW B w0 H0, W = y.w) → (∃ y : HW B w0 H0, w' = y.w)) ∧ wpAnyK P l.toArray Q (fun W' => ∃ y : HW B w0 H0, W' = y.w) nb fuel (listed.setIfInBounds i true) a' w') a W := by
  have ho' : l.toArray[i]? = some o := by simpa using ho
  have hcs := closed_set hc hr
  unfold wpOp
  rw [ho']
  simp only
  have hout : LetsOut (hkQ P l Q B w0 H0 nb (nb.contains i) fuel (listed.setIfInBounds i true)) → LetsOut Q := fun ⟨a1, w1, h1⟩ => ⟨a1, w1, h1⟩
  have hn : ∀ a w, hkQ P l Q B w0 H0 nb (nb.contains i) fuel (listed.setIfInBounds i true) .normal a w → (nb.contains i = false → (∃ y : HW B w0 H0, W = y.w) → (∃ y : HW B w0 H0, w = y.w)) ∧ wpAnyK P l.toArray Q (fun W' => ∃ y : HW B w0 H0, W' = y.w) nb fuel (listed.setIfInBounds i true) a w :=
    fun a w h => ⟨fun hb _ => h.1 hb, h.2 hcs⟩
  unfold wpList at h
  by_cases hw : Region.wanted o (yielded l.toArray a.tmps) = true
  · rw [if_pos hw] at h ⊢
    refine h.imp (fun h => ?_) (fun h => ⟨h.1, hout h.2⟩)
    unfold Oper.wp at *
    generalize (execOp a.eval o).run P W = r at *
    cases r with
    | ok n w' =>
      cases n <;> simp only [Oper.upon] at h ⊢ <;>
        first
          | exact hn _ _ h
          | exact Calls.mono h (fun e w'' he => by cases e <;> first | exact hn _ _ he | exact he | exact hout he)
          | exact Rows.mono h (fun _ _ he => hn _ _ he)
          | exact h
    | halt x w' => cases x <;> simp only [Oper.upon] at h ⊢ <;> exact h
  · rw [if_neg hw] at h ⊢
    exact hn _ _ h
theorem hk_one {o : Oper} (i : Nat) (ho : l[i]? = some o) (hr : Region.ready .any l.toArray listed = [i]) (h : wpList P l.toArray (hkQ P l Q B w0 H0 nb (nb.contains i) fuel (listed.setIfInBounds i true)) [o] a W) : WMK P l Q B w0 H0 nb (fuel + 1) listed a W := by
  intro hc
  refine ⟨fun h0 => by (rw [hr] at h0; exact absurd h0 (by simp)), fun j hj => ?_⟩
  have hj' := hj
  rw [hr] at hj
  obtain rfl : j = i := by simpa using hj
  exact hk_op j ho hj' hc h
theorem hk_two {o o2 : Oper} (i j : Nat) (ho : l[i]? = some o) (ho2 : l[j]? = some o2) (hr : Region.ready .any l.toArray listed = [i, j]) (h : wpList P l.toArray (hkQ P l Q B w0 H0 nb (nb.contains i) fuel (listed.setIfInBounds i true)) [o] a W)
    (h2 : wpList P l.toArray (hkQ P l Q B w0 H0 nb (nb.contains j) fuel (listed.setIfInBounds j true)) [o2] a W) : WMK P l Q B w0 H0 nb (fuel + 1) listed a W := by
  intro hc
  refine ⟨fun h0 => by (rw [hr] at h0; exact absurd h0 (by simp)), fun k hk => ?_⟩
  have hk' := hk
  rw [hr] at hk
  simp at hk
  rcases hk with rfl | rfl
  · exact hk_op k ho hk' hc h
  · exact hk_op k ho2 hk' hc h2
theorem hk_end (hr : Region.ready .any l.toArray listed = []) (h : Q .normal a W) : WMK P l Q B w0 H0 nb fuel listed a W := fun _ => wpAnyK_done hr h _
def nrm (Q : Exit → Act → World → Prop) : Exit → Act → World → Prop
  | .normal, a, w => Q .normal a w
  | _, _, _ => False
theorem regKN {id : Nat} (nb : List Nat) (hH : Hp B w0 W H) (hS : SubH H H0) (hm : P.follows .mixedOrders = true) (h : ∀ W', Hp B w0 W' H → WMK P l (nrm Q) B w0 H0 nb l.length (Array.replicate l.length false) a W') : (Code.region id l.toArray true).wp P Q a W := by
  refine Code.wp_mono (fun e a w hq => ?_) (regK nb hH hS hm h)
  cases e <;> first | exact hq.elim | exact hq
theorem hk_endN (hr : Region.ready .any l.toArray listed = []) (h : Q .normal a W) : WMK P l (nrm Q) B w0 H0 nb fuel listed a W := hk_end hr h
theorem regK1 {af : Nat → Act} {Hf : Nat → HB} {id : Nat} (nb : List Nat) (hH : Hp B w0 W H) (hS : SubH H H0) (hm : P.follows .mixedOrders = true) (h : ∀ W', Hp B w0 W' H → WMK P l (mixF B w0 af Hf) B w0 H0 nb l.length (Array.replicate l.length false) a W')
    (hk : ∀ W' g, Hp B w0 W' (Hf g) → Q .normal (af g) W') : (Code.region id l.toArray true).wp P Q a W := by
  refine Code.wp_mono (fun e a w hq => ?_) (regK nb hH hS hm h)
  cases e <;> first | exact hq.elim | (obtain ⟨g, rfl, hg⟩ := hq; exact hk _ _ hg)
end
section
variable {P : Program} {B : Nat} {w0 W : World} {H H0 : HB} {a : Act} {Q : Exit → Act → World → Prop} {l : List Oper} {fuel : Nat} {listed : Array Bool}
end
end Go.Proofs.YtdnehjhijmeihaaGreat
