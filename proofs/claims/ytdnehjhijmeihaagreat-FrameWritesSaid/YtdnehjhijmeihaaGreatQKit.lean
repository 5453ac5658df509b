/-
  Joined texts: Kit, Mix.
-/
import Derived.WalkKit
import Derived.ProofKit
import Derived.OpenShut
import Derived.Outline
import Derived.Deep.QuietTactic
import Derived.BigQuiet
import Derived.BigGuardPart
import Derived.ShutString
import Derived.WalkSpells
import Derived.WalkLawsBesides
import Derived.Lib.Hide
import Derived.StillTailTactics
import Derived.Deep.RegionLaw
namespace Go.Proofs.YtdnehjhijmeihaaGreat
open Go.ChangeShapes Go.WideShapes Go.ChangeAt Go.RowKit
def BW (B : Nat) (W : World) : Type := { w' : World // Below B W w' }
instance (B : Nat) (W : World) : Nonempty (BW B W) := ⟨⟨W, Below.refl _ _⟩⟩
def BW.w {B : Nat} {W : World} (x : BW B W) : World := x.1
theorem BW.below {B : Nat} {W : World} (x : BW B W) : Below B W x.w := x.2
def BW.mk {B : Nat} {W w' : World} (h : Below B W w') : BW B W := ⟨w', h⟩
@[go_sem] theorem BW.cell {B : Nat} {W : World} (x : BW B W) (b o : Nat) (h : b < B) : x.w.cell? ⟨b, o, none⟩ = W.cell? ⟨b, o, none⟩ := x.2.cell (p := ⟨b, o, none⟩) h
@[go_sem] theorem BW.frozen {B : Nat} {W : World} (x : BW B W) (b o : Nat) (h : b < B) : x.w.frozen? ⟨b, o, none⟩ = W.frozen? ⟨b, o, none⟩ := x.2.frozen (p := ⟨b, o, none⟩) h
@[simp, go_sem] theorem BW.lt {B : Nat} {W : World} (x : BW B W) (b : Nat) (h : b < W.heap.size) : (b < x.w.heap.size) = True := by
  have h' : W.heap.size ≤ x.w.heap.size := x.2.size
  simp; omega

@[irreducible] def Gives (P : Program) (f : FuncId) (args : Array Value) (w : World) (v : Value) : Prop :=
  Calls P f args w fun e w' => e = .returned v ∧ ∃ x : BW w.heap.size w, w' = x.w
theorem Gives.calls {P : Program} {f : FuncId} {args : Array Value} {w : World} {v : Value} (h : Gives P f args w v) :
    Calls P f args w fun e w' => e = .returned v ∧ ∃ x : BW w.heap.size w, w' = x.w := by unfold Gives at h; exact h
theorem Gives.of {P : Program} {f : FuncId} {args : Array Value} {w : World} {v : Value} (h : Calls P f args w fun e w' => e = .returned v ∧ Below w.heap.size w w') : Gives P f args w v := by
  unfold Gives
  exact h.mono fun _ _ ⟨he, hb⟩ => ⟨he, BW.mk hb, rfl⟩
theorem Gives.to {P : Program} {f : FuncId} {args : Array Value} {w : World} {v : Value} (h : Gives P f args w v) : Calls P f args w fun e w' => e = .returned v ∧ Below w.heap.size w w' :=
  h.calls.mono fun _ _ ⟨he, x, hx⟩ => ⟨he, by rw [hx]; exact x.below⟩
theorem Gives.same {P : Program} {f : FuncId} {args : Array Value} {w : World} {v : Value} (h : Calls P f args w fun e w' => e = .returned v ∧ w = w') : Gives P f args w v := by
  unfold Gives
  exact h.mono fun _ _ ⟨he, hb⟩ => ⟨he, BW.mk (Below.refl _ _), hb.symm⟩
theorem Gives.call_bw {P : Program} {f : FuncId} {args : Array Value} {B : Nat} {W : World} {v : Value} {R : Ending → World → Prop} {x : BW B W} (hB : B ≤ W.heap.size) (h : Gives P f args x.w v)
    (hR : ∀ y : BW B W, R (.returned v) y.w) : Calls P f args x.w R :=
  h.calls.mono fun _ _ ⟨he, y, hy⟩ => by subst he; subst hy; exact hR (BW.mk (x.below.trans (y.below.mono (Nat.le_trans hB x.below.size))))
theorem Gives.call {P : Program} {f : FuncId} {args : Array Value} {w : World} {v : Value} {R : Ending → World → Prop} (h : Gives P f args w v)
    (hR : ∀ y : BW w.heap.size w, R (.returned v) y.w) : Calls P f args w R :=
  h.calls.mono fun _ _ ⟨he, y, hy⟩ => by subst he; subst hy; exact hR y
theorem Gives.bw {P : Program} {f : FuncId} {args : Array Value} {B : Nat} {W : World} {v : Value} {x : BW B W} (hB : B ≤ W.heap.size) (h : Gives P f args x.w v) :
    Calls P f args x.w fun e w'' => e = .returned v ∧ ∃ y : BW B W, w'' = y.w :=
  h.calls.mono fun _ _ ⟨he, y, hy⟩ => ⟨he, BW.mk (x.below.trans (y.below.mono (Nat.le_trans hB x.below.size))), hy⟩

theorem wp_region_bw {P : Program} {id : Nat} {Q : Exit → Act → World → Prop} {a : Act} {w : World} {l : List Oper} (hm : P.follows .mixedOrders = true) (hB : Region.lexB .any l.toArray = true)
    (h : wpQuiet P l.toArray (fun w' => ∃ x : BW w.heap.size w, w' = x.w) (fun a' => ∀ w', (∃ x : BW w.heap.size w, w' = x.w) → Q .normal a' w') l a) : (Code.region id l.toArray true).wp P Q a w :=
  wp_region_quiet (C := fun w' => ∃ x : BW w.heap.size w, w' = x.w) hm hB ⟨BW.mk (Below.refl _ _).drew, rfl⟩ (by simpa using h)

theorem wp_region_bx {P : Program} {id : Nat} {Q : Exit → Act → World → Prop} {a : Act} {B : Nat} {W : World} {x : BW B W} {l : List Oper} (_hb : B ≤ W.heap.size) (hm : P.follows .mixedOrders = true) (hB : Region.lexB .any l.toArray = true)
    (h : wpQuiet P l.toArray (fun w' => ∃ y : BW B W, w' = y.w) (fun a' => ∀ w', (∃ y : BW B W, w' = y.w) → Q .normal a' w') l a) : (Code.region id l.toArray true).wp P Q a x.w :=
  wp_region_quiet (C := fun w' => ∃ y : BW B W, w' = y.w) hm hB ⟨BW.mk x.below.drew, rfl⟩ (by simpa using h)
theorem below_drewN {B : Nat} {a w : World} (h : Below B a w) (n : Nat) : Below B a (w.drewN n) := ⟨h.os, h.tape, h.output, h.size, h.block⟩

@[simp] theorem drew_heap (w : World) : w.drew.heap = w.heap := rfl
@[simp] theorem drewN_heap (w : World) (n : Nat) : (w.drewN n).heap = w.heap := rfl
theorem below_bw {B B' : Nat} {a W : World} (x : BW B' W) (h : Below B a W) (hB : B ≤ B') : Below B a x.w := h.trans (x.below.mono hB)
@[simp] theorem bs_refl (B : Nat) (w : World) : Below B w w = True := by simp [Below.refl]
@[simp] theorem bs_alloc {B : Nat} {a w : World} (o : Obj) (h : Below B a w) (hB : B ≤ w.heap.size) : Below B a (w.alloc o) = True := by simp [h.alloc hB]
@[simp] theorem bs_set {B : Nat} {a w : World} (p : Addr) (u : Value) (h : Below B a w) (hB : B ≤ p.block) : Below B a (w.setCell p u) = True := by simp [h.setCell hB]
@[simp] theorem bs_drew {B : Nat} {a w : World} (h : Below B a w) : Below B a w.drew = True := by simp [h.drew]
@[simp] theorem bs_drewN {B : Nat} {a w : World} (n : Nat) (h : Below B a w) : Below B a (w.drewN n) = True := by
  have : Below B a (w.drewN n) := ⟨h.os, h.tape, h.output, h.size, h.block⟩
  simp [this]
@[simp] theorem bs_bw {B B' : Nat} {a W : World} (x : BW B' W) (h : Below B a W) (hB : B ≤ B') : Below B a x.w = True := by simp [below_bw x h hB]
@[simp, go_sem] theorem BW.le {B : Nat} {W : World} (x : BW B W) (b : Nat) (h : b ≤ W.heap.size) : (b ≤ x.w.heap.size) = True := by
  have h' : W.heap.size ≤ x.w.heap.size := x.2.size
  simp; omega
@[simp] theorem BW.le_add {B : Nat} {W : World} (x : BW B W) (b n : Nat) (h : b ≤ W.heap.size) : (b ≤ x.w.heap.size + n) = True := by
  have h' : W.heap.size ≤ x.w.heap.size := x.2.size
  simp; omega
@[simp, go_sem] theorem BW.lt_add {B : Nat} {W : World} (x : BW B W) (b n : Nat) (h : b ≤ W.heap.size) : (b < x.w.heap.size + (n + 1)) = True := by
  have h' : W.heap.size ≤ x.w.heap.size := x.2.size
  simp; omega

theorem BW.le_of {B b : Nat} {W : World} {x : BW B W} (h : b ≤ W.heap.size) : b ≤ x.w.heap.size := Nat.le_trans h x.2.size
theorem le_alloc {b : Nat} {w : World} {o : Obj} (h : b ≤ w.heap.size) : b ≤ (w.alloc o).heap.size := by simp; omega
theorem le_drew {b : Nat} {w : World} (h : b ≤ w.heap.size) : b ≤ w.drew.heap.size := h
theorem le_drewN {b n : Nat} {w : World} (h : b ≤ w.heap.size) : b ≤ (w.drewN n).heap.size := h
theorem le_set {b : Nat} {w : World} {p : Addr} {u : Value} (h : b ≤ w.heap.size) : b ≤ (w.setCell p u).heap.size := by simpa [World.setCell] using h
theorem le_plus {b n k : Nat} (h : b ≤ n) : b ≤ n + k := Nat.le_trans h (Nat.le_add_right _ _)
theorem lifted_of_walk {H : Type} {enc : TypeId × Value → H} {C : Checked} {os : Os} {f : FuncId} {fn : Func} {s : ChangeSpec} {conds : List PathCond} {tb : TypeId}
    (own : ownKnob C.prog.godebug = none) (started : os.Started) (noInit : C.prog.inits.idxOf? f = none) (hfn : C.prog.funcs[f]? = some fn)
    (witness : ∃ (w : World) (tape : Tape) (i : Input), w.os = os ∧ (w.forCall tape i).Shaped C.prog ∧ i.vars = [] ∧ Input.okWide C.prog (w.forCall tape i) .any w.heap.size f i ∧
      s.pre6 enc C.prog fn conds false (w.forCall tape i).memory i.args ∧ ({} : Assume).holds C.prog (lone (Frame.enter C.prog f i.args .normal) [] (w.forCall tape i)))
    (hres : fn.resultTypes = #[tb]) (hbool : C.prog.underlying tb = some .bool) (hlaid : laidOutB C.prog = true)
    (hpar : (fn.params.toList.all fun t => C.prog.readableRec t && decide (t < C.prog.types.size)) = true)
    (hvars : s.vars = []) (hspec : ∀ ds : List (DataW H), ds.length = fn.params.toList.length → (s.fn H ds).results = [.lit (.bool true)] ∧ (s.fn H ds).args = ds ∧ (s.fn H ds).vars = [])
    (walk : ∀ (W : World) (base : Nat) (args : Array Value) (ds : List (DataW H)) (ps : List MemPlace),
      (∀ (j : Nat) t v, fn.params[j]? = some t → args[j]? = some v → Value.okWide C.prog W .any base t v) →
      DataW.TrodAll enc C.prog W 0 (fun _ => true) true fn.params.toList args.toList ds ps → W.noneFrozen ps →
      Gives C.prog f args W (.bool true)) :
    ReturnsInHanded {} C os f .any (s.pre6 enc C.prog fn conds false) (s.post enc C.prog fn false true false false) := by
  refine returnsInHanded_of_change own started noInit hfn witness ?_
  intro W base args ds gs before hval hW _ _
  have hW' := hW
  obtain ⟨p, q, hA, hV, rfl, hfz, _⟩ := hW
  rw [hvars] at hV
  obtain ⟨rfl, rfl⟩ := trodVars_none hV
  have hlen : ds.length = fn.params.toList.length := by
    have : ∀ (ts : List TypeId) (vs : List Value) (ds : List (DataW H)) (p : List MemPlace), DataW.TrodAll enc C.prog W 0 (fun _ => true) true ts vs ds p → ds.length = ts.length := by
      intro ts
      induction ts with
      | nil => intro vs ds p h; obtain ⟨_, rfl, _⟩ := trodAll_nil h; rfl
      | cons t ts ih => intro vs ds p h; obtain ⟨v, vs1, d, ds1, a, b, rfl, rfl, rfl, h1, h2⟩ := trodAll_cons h; simp [ih _ _ _ h2]
    exact this _ _ _ _ hA
  obtain ⟨hs1, hs2, hs3⟩ := hspec ds hlen
  refine (walk W base args ds p hval hA (by simpa using hfz)).to.mono fun e W' ⟨he, hb⟩ => ?_
  subst he
  refine ⟨_, rfl, ds, [], p ++ [], [], p, [], hW', ?_, ?_, ?_, World.keptBut_mono (fun x hx => hx.elim) (hb.frame (fun _ => False)), fun h => by cases h⟩
  · simp only [List.append_nil, hs1, hres, List.size_toArray, List.length_cons, List.length_nil]
    exact trodAll_mk1 (shut_bool hbool true)
  · simp only [List.append_nil, hs2]
    have : ∀ (ts : List TypeId) (vs : List Value) (ds : List (DataW H)) (p : List MemPlace), (ts.all fun t => C.prog.readableRec t && decide (t < C.prog.types.size)) = true → (∀ x ∈ p, x.block < W.heap.size) →
        DataW.TrodAll enc C.prog W 0 (fun _ => true) true ts vs ds p → DataW.TrodAll enc C.prog W' 0 (fun b => decide (b < W.heap.size)) true ts vs ds p := by
      intro ts
      induction ts with
      | nil => intro vs ds p _ _ h; obtain ⟨rfl, rfl, rfl⟩ := trodAll_nil h; exact trodAll_mk0
      | cons t ts ih =>
        intro vs ds p hr hlt h
        obtain ⟨v, vs1, d, ds1, a, b, rfl, rfl, rfl, h1, h2⟩ := trodAll_cons h
        simp only [List.all_cons, Bool.and_eq_true, decide_eq_true_eq] at hr
        refine trodAll_cons_mk (Below.trod hlaid hr.1.1 hr.1.2 h1 hb (fun x hx => hlt x (by simp [hx]))) (ih _ _ _ hr.2 (fun x hx => hlt x (by simp [hx])) h2)
    exact this _ _ _ _ hpar (fun x hx => hW'.lt x (by simpa using hx)) hA
  · simp only [List.append_nil, hs3, hvars]
    exact rfl

theorem wrap64_lit {n : Int} (h1 : -9223372036854775808 ≤ n) (h2 : n ≤ 9223372036854775807) : wrap64 n = n := IntWalk.wrap64_in n ⟨h1, h2⟩
def CellsAll (P : Program) (w : World) (r : Reach) (base : Nat) : List TypeId → List Value → Prop
  | [], [] => True
  | t :: ts, v :: vs => Cell.okWide P w r base t v ∧ CellsAll P w r base ts vs
  | _, _ => False
section
variable {P : Program} {w : World} {r : Reach} {base : Nat}
theorem cellsAll_of : ∀ (ts : List TypeId) (cs : List Value), cs.length = ts.length → (∀ (i : Nat) (v : Value), cs[i]? = some v → ∃ u, ts[i]? = some u ∧ Cell.okWide P w r base u v) → CellsAll P w r base ts cs
  | [], [], _, _ => trivial
  | t :: ts, v :: vs, hl, h => by
    refine ⟨?_, cellsAll_of ts vs (by simpa using hl) fun i x hx => ?_⟩
    · obtain ⟨u, hu, hc⟩ := h 0 v rfl
      simp at hu
      rw [hu]
      exact hc
    · obtain ⟨u, hu, hc⟩ := h (i + 1) x (by simpa using hx)
      exact ⟨u, by simpa using hu, hc⟩
  | [], _ :: _, hl, _ => by simp at hl
  | _ :: _, [], hl, _ => by simp at hl
theorem cellsAll_row {t : TypeId} {ts : List TypeId} {cs : Array Value} (ht : P.cellTypes P.depth t = some ts) (hs : cs.size = ts.length) (h : Row.okWide P w r base t cs) : CellsAll P w r base ts cs.toList := by
  obtain ⟨ts', h1, _, h3⟩ := h
  rw [ht] at h1
  obtain rfl := Option.some.inj h1
  refine cellsAll_of _ _ (by simpa using hs) fun i v hv => ?_
  have hv' : cs[i]? = some v := by simpa using hv
  have hi : i < ts.length := by
    have := (Array.getElem?_eq_some_iff.1 hv').1
    omega
  have := h3 i v hv'
  rwa [Nat.mod_eq_of_lt hi] at this
theorem open_agg_struct {t : TypeId} {fs : Array Field} {ts : List TypeId} {v : Value} (hu : P.underlying t = some (.struct fs)) (ht : P.cellTypes P.depth t = some ts) (hn : P.cellsOf t = ts.length) (h : Value.okWide P w r base t v) :
    ∃ cs : List Value, v = .agg cs.toArray ∧ CellsAll P w r base ts cs := by
  unfold Value.okWide at h
  rw [hu] at h
  obtain ⟨cs, rfl, hs, hr⟩ := h
  exact ⟨cs.toList, by simp, cellsAll_row ht (hs.trans hn) hr⟩
end

theorem blw {n : Nat} {A B : World} (h : Below n A B := by (first | ((repeat (with_reducible first | assumption | exact Below.refl _ _ | (refine below_bw _ ?_ ?_; rotate_left; focus (((repeat (with_reducible first | assumption | exact Nat.le_refl _ | refine BW.le_of ?_ | refine le_alloc ?_ | refine le_drew ?_ | refine le_drewN ?_ | refine le_set ?_ | refine le_plus ?_ | omega | refine le_setA ?_)); done))) | (refine Below.alloc ?_ ?_ _; rotate_left; focus (((repeat (with_reducible first | assumption | exact Nat.le_refl _ | refine BW.le_of ?_ | refine le_alloc ?_ | refine le_drew ?_ | refine le_drewN ?_ | refine le_set ?_ | refine le_plus ?_ | omega | refine le_setA ?_)); done))) | (refine Below.setCell ?_ ?_ _; rotate_left; focus (((repeat (with_reducible first | assumption | exact Nat.le_refl _ | refine BW.le_of ?_ | refine le_alloc ?_ | refine le_drew ?_ | refine le_drewN ?_ | refine le_set ?_ | refine le_plus ?_ | omega | refine le_setA ?_)); done))) | refine Below.drew ?_ | refine below_drewN ?_ _ | (refine below_setCells ?_ ?_ _ _; rotate_left; focus (((repeat (with_reducible first | assumption | exact Nat.le_refl _ | refine BW.le_of ?_ | refine le_alloc ?_ | refine le_drew ?_ | refine le_drewN ?_ | refine le_set ?_ | refine le_plus ?_ | omega | refine le_setA ?_)); done))))); done) | (simp; done) | (repeat (first | assumption | exact Below.refl _ _ | (refine below_bw _ ?_ ?_; rotate_left; focus ((first | omega | (repeat (first | with_reducible assumption | with_reducible exact Nat.le_refl _ | refine BW.le_of ?_ | refine le_alloc ?_ | refine le_drew ?_ | refine le_drewN ?_ | refine le_set ?_ | refine le_plus ?_ | assumption | exact Nat.le_refl _))))) | (refine Below.alloc ?_ ?_ _; rotate_left; focus ((first | omega | (repeat (first | with_reducible assumption | with_reducible exact Nat.le_refl _ | refine BW.le_of ?_ | refine le_alloc ?_ | refine le_drew ?_ | refine le_drewN ?_ | refine le_set ?_ | refine le_plus ?_ | assumption | exact Nat.le_refl _))))) | (refine Below.setCell ?_ ?_ _; rotate_left; focus ((first | omega | (repeat (first | with_reducible assumption | with_reducible exact Nat.le_refl _ | refine BW.le_of ?_ | refine le_alloc ?_ | refine le_drew ?_ | refine le_drewN ?_ | refine le_set ?_ | refine le_plus ?_ | assumption | exact Nat.le_refl _))))) | refine Below.drew ?_ | refine below_drewN ?_ _ | (refine below_setCells ?_ ?_ _ _; rotate_left; focus ((first | omega | (repeat (first | with_reducible assumption | with_reducible exact Nat.le_refl _ | refine BW.le_of ?_ | refine le_alloc ?_ | refine le_drew ?_ | refine le_drewN ?_ | refine le_set ?_ | refine le_plus ?_ | assumption | exact Nat.le_refl _))))))))) : Below n A B := h
end Go.Proofs.YtdnehjhijmeihaaGreat
namespace Go.Proofs.YtdnehjhijmeihaaGreat
set_option linter.unusedVariables false
set_option linter.unusedSimpArgs false
section
variable {P : Program} {l : List Oper} {Q : Exit → Act → World → Prop} {a : Act} {w : World} {o : Oper} {fuel : Nat} {listed : Array Bool}
def valueKind (o : Oper) : Bool := match o.op with
  | .pick .. | .binOp .. | .unOp .. | .convert .. | .slice .. | .index .. | .field .. | .extract .. | .makeInterface .. | .move _ | .assign _ => true
  | _ => false
theorem bind_value {s : Sem Value} {w w' : World} {n : Next} (h : ((do pure (.value (← s))) : Sem Next).run P w = .ok n w') : ∃ u, n = .value u := by
  rw [Sem.run_bind] at h
  generalize s.run P w = r at h
  cases r with
  | ok v w1 =>
    simp [Result.andThen] at h
    exact ⟨v, h.1.symm⟩
  | halt x w1 => simp [Result.andThen] at h
theorem exec_value {o : Oper} {ρ : Operand → Value} (hk : valueKind o = true) {w w' : World} {n : Next} (h : (execOp ρ o).run P w = .ok n w') : ∃ u, n = .value u := by
  unfold execOp at h
  unfold valueKind at hk
  generalize o.op = op at h hk
  cases op <;> first | (simp at hk; done) | skip
  case move x =>
    have h1 : (pure (Next.value (ρ x)) : Sem Next).run P w = .ok n w' := h
    simp at h1; exact ⟨_, h1.1.symm⟩
  case assign x =>
    have h1 : (pure (Next.value (ρ x)) : Sem Next).run P w = .ok n w' := h
    simp at h1; exact ⟨_, h1.1.symm⟩
  case pick c x y =>
    have h : (do pure (.value (if ← asBool (ρ c) then ρ x else ρ y)) : Sem Next).run P w = .ok n w' := h
    rw [Sem.run_bind] at h
    generalize (asBool (ρ c)).run P w = r at h
    cases r with
    | ok v w1 => simp [Result.andThen] at h; exact ⟨_, h.1.symm⟩
    | halt x w1 => simp [Result.andThen] at h
  all_goals exact bind_value h
end
theorem quiet_load {P : Program} {C : World → Prop} {K : Act → Prop} {o : Oper} {a : Act} {ty : TypeId} {x : Operand} {p v : Value} (ho : o.op = .load ty x) (hx : a.eval x = p)
    (h : ∀ w, C w → (Instr.loadAt ty p).run P w = .ok v w) (hk : K (a.put o.dst v)) : o.quiet P a C K := by
  refine ⟨v, fun w hw => ?_, hk⟩
  unfold Oper.quietAt execOp
  simp only [ho, hx, Sem.run_bind, h w hw, Result.andThen_ok, Sem.run_pure]
  exact ⟨rfl, rfl⟩
theorem loop_ne (d : ByteArray) : ∀ (n i : Nat) (r : List UInt8), d.size - i = n → (r ≠ [] ∨ i < d.size) → (ByteArray.toList.loop d i r).isEmpty = false
  | 0, i, r, h, h2 => by
    rw [ByteArray.toList.loop, if_neg (by omega)]
    rcases h2 with h2 | h2
    · cases r with
      | nil => exact absurd rfl h2
      | cons a l => simp
    · omega
  | n + 1, i, r, h, h2 => by
    rw [ByteArray.toList.loop, if_pos (by omega)]
    exact loop_ne d n (i + 1) _ (by omega) (.inl (by simp))
theorem notEmpty {d : ByteArray} (h : d.size ≠ 0) : d.toList.isEmpty = false := loop_ne d _ 0 [] rfl (.inr (by omega))
end Go.Proofs.YtdnehjhijmeihaaGreat
