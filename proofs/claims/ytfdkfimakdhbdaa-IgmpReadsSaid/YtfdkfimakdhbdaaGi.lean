/-
  Contracts of package igmp: Read: what it reads (printed by tools/gen-gi.py).
-/
import Derived.Test.YtfdkfimakdhbdaaGh
import Derived.Test.YtfdkfimakdhbdaaTf
import Derived.Test.YtfdkfimakdhbdaaSum
namespace Go.Proofs.Ytfdkfimakdhbdaa
open Go.ChangeShapes Go.WideShapes Go.ChangeAt Go.RowKit
set_option linter.unusedVariables false
set_option linter.unusedSimpArgs false
set_option maxRecDepth 20000
attribute [local irreducible] wpList

def sumOk (s : ByteArray) : Bool := decide (foldN (wsum s.data.toList) = 65535)
def st0 : St := ⟨0, false, 0⟩
def kindF (s : ByteArray) : Nat := numV s 1 st0
def secF (s : ByteArray) : Nat := numV s 1 (stepS s 1 st0)
def st3 (s : ByteArray) : St := stepS s 2 (stepS s 1 (stepS s 1 st0))
def ver1F (s : ByteArray) : Int := if kindF s = 18 then 1 else 2
def kind1F (s : ByteArray) : Int := if kindF s = 23 then 3 else 2
noncomputable def readT (s : ByteArray) : Tk × St :=
  if kindF s = 17 then qryF s (failS (decide (8 < s.size) && decide (s.size < 12)) 2 (st3 s)) (secF s)
  else if kindF s = 34 then (⟨false, 3, 2, 0, Ad.z, false, 0, 0, [], (repF s (st3 s)).1⟩, (repF s (st3 s)).2)
  else if kindF s = 18 ∨ kindF s = 22 ∨ kindF s = 23 then (⟨false, ver1F s, kind1F s, 0, addrS s 4 (st3 s), false, 0, 0, [], []⟩, failS (!grp4 (addrS s 4 (st3 s))) 2 (stepS s 4 (st3 s)))
  else (Tk.z, ⟨(st3 s).k, (st3 s).b, 5⟩)
noncomputable def readF (s : ByteArray) : Tk × Int :=
  if s.size < 8 then (Tk.z, 3) else if sumOk s = false then (Tk.z, 4) else if (readT s).2.e = 0 then ((readT s).1, 0) else (Tk.z, (readT s).2.e)
theorem tkz_seg : fls (tkS Tk.z none 0 none 0) = fls [.one (.bool false), .one (.int .i64 0), .one (.int .i64 0), .one (.int .i64 0), .many (zeroL Try.prog 25) 17, .one (.bool false), .one (.int .i64 0), .one (.int .i64 0), .one (.slice none 0 0), .one (.slice none 0 0)] := by
  rw [← adL_z]
  rfl
theorem zadr_ok : OkA (zeroL Try.prog 25) 17 := by rw [← adL_z]; exact adL_ok _
theorem readE {s : ByteArray} (h : 8 ≤ s.size) (hb : sumOk s = true) : readF s = if (readT s).2.e = 0 then ((readT s).1, 0) else (Tk.z, (readT s).2.e) := by
  unfold readF
  rw [if_neg (by omega), if_neg (by rw [hb]; simp)]
def RdPost (w : World) (T : Tk) (c : Int) (e : Ending) (w' : World) : Prop := ∃ sp sc rp rc D, e = .returned (.tuple #[.agg (fls (tkS T sp sc rp rc)).toArray, .int .i64 c]) ∧ Made w w' D ∧ TkIn D sp rp T
theorem RdPost.mk {w : World} {T : Tk} {c : Int} {e : Ending} {w' : World} {sp rp : Option Addr} {sc rc : Nat} {D : HB} (h1 : e = .returned (.tuple #[.agg (fls (tkS T sp sc rp rc)).toArray, .int .i64 c])) (h2 : Made w w' D) (h3 : TkIn D sp rp T) : RdPost w T c e w' := ⟨sp, sc, rp, rc, D, h1, h2, h3⟩
theorem TkIn.z {D : HB} : TkIn D none none Tk.z := fun _ _ _ _ => ⟨AdsAt.nil, RcsAt.nil⟩
section
variable {w : World} {s : ByteArray}
theorem sgood_any (hs : s.size ≤ 100000) {W : World} {g c : Nat} (h : Row W g 9 (fls [.one (.string s)]).toArray) : Gives Try.prog 18 #[.slice (some ⟨g, 0, none⟩) 1 c] W (.bool (sumOk s)) := by
  have h := Good_row (m := 1) (c := c) (ss := [s]) rfl (small1 (by omega)) (by simpa [fls] using h)
  rwa [show flat [s] = s.data.toList by simp only [flat, List.flatMap_cons, List.flatMap_nil, List.append_nil]] at h
theorem st0_k : st0.k ≤ s.size := Nat.zero_le _
theorem st3_k : (st3 s).k ≤ s.size := stepS_k (stepS_k (stepS_k st0_k))
/-- what the three calls ahead do -/
theorem pre3 (B : Nat) (w0 : World) (hs : s.size ≤ 100000) : ∃ (t1 t2 : St) (v3 : Nat), (∀ g gr, NumC B w0 g gr s 1 st0 (kindF s) t1) ∧ (∀ g gr, NumC B w0 g gr s 1 t1 (secF s) t2) ∧ (∀ g gr, NumC B w0 g gr s 2 t2 v3 (st3 s)) :=
  ⟨_, _, _, fun g gr => numC (by omega) hs st0_k, fun g gr => numC (by omega) hs (stepS_k st0_k), fun g gr => numC (by omega) hs (stepS_k (stepS_k st0_k))⟩
end
end Go.Proofs.Ytfdkfimakdhbdaa
