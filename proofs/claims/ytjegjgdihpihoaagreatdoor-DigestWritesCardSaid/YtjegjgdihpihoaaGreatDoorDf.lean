/-
  Contracts of acequialaw27: copies of entries.
-/
import Derived.Test.YtjegjgdihpihoaaGreatDoorDe
import Derived.Test.YtjegjgdihpihoaaGreatDoorAf
namespace Go.Proofs.YtjegjgdihpihoaaGreatDoor
open Go.ChangeShapes Go.WideShapes Go.ChangeAt Go.RowKit
set_option linter.unusedVariables false
set_option linter.unusedSimpArgs false
set_option maxRecDepth 20000
attribute [local irreducible] wpList

def fewE (e : En) : En := { e with src := e.src.take 6 }
section
variable {w : World} {p p' : Option Addr} {c c' : Nat}
/-- the copy of an entry lies in a block of its own -/
def EnPost (w : World) (e : En) (x : Ending) (w' : World) : Prop := ∃ g c q J, x = .returned (.agg (fls (enS e (some ⟨g, 0, none⟩) c)).toArray) ∧ Made w w' [(g, 24, true, [.many (adsL e.src) (e.src.length * 17), .many J q])]
theorem EnPost.mk {w : World} {e : En} {x : Ending} {w' : World} {g c q : Nat} {J : List Value} (h1 : x = .returned (.agg (fls (enS e (some ⟨g, 0, none⟩) c)).toArray)) (h2 : Hp w.heap.size w w' [(g, 24, true, [.many (adsL e.src) (e.src.length * 17), .many J q])]) : EnPost w e x w' := ⟨g, c, q, J, h1, h2, by simp⟩
theorem entry_any {e : En} (h : AdsAt w p e.src) : Calls Tryz.prog 4 #[.agg (fls (enS e p c)).toArray] w fun x w' => EnPost w (fewE e) x w' := by
  have oG := adL_ok e.grp
  have hH := Hp.refl w
  go_enter Tryz.func4, Tryz.ntmps4
  go_wp2_with (first | ((go_at_call 16; refine hAddrs hH (h.below hH.below) ?_; (clear hH; intro W ga ca qa Ja l6 hl6 hH); ((try simp only [Act.put, List.setIfInBounds_toArray, List.set_cons_succ, List.set_cons_zero])))) | ((first | (refine gL rfl ?_; first | (refine hL1 tab_ok 0 rfl ?_ rfl hH rfl rfl rfl rfl ?_; (focus (first | exact wN rfl | exact rfl))) | (refine hL1 tab_ok 1 rfl ?_ rfl hH rfl rfl rfl rfl ?_; (focus (first | exact wN rfl | exact rfl))) | (refine hL1 tab_ok 2 rfl ?_ rfl hH rfl rfl rfl rfl ?_; (focus (first | exact wN rfl | exact rfl))) | (refine hLR tab_ok 0 rfl ?_ rfl hH rfl rfl rfl rfl ?_; (focus (first | exact wN rfl | exact rfl))) | (refine hLR tab_ok 1 rfl ?_ rfl hH rfl rfl rfl rfl ?_; (focus (first | exact wN rfl | exact rfl))) | (refine hLR tab_ok 2 rfl ?_ rfl hH rfl rfl rfl rfl ?_; (focus (first | exact wN rfl | exact rfl))) | (refine hL1i tab_ok 0 rfl ?_ rfl hH rfl rfl rfl rfl ?_; (focus (first | exact wN rfl | exact rfl)); refine ⟨?_, ?_, ?_⟩; rotate_left; (focus assumption)) | (refine hL1i tab_ok 1 rfl ?_ rfl hH rfl rfl rfl rfl ?_; (focus (first | exact wN rfl | exact rfl)); refine ⟨?_, ?_, ?_⟩; rotate_left; (focus assumption)) | (refine hL1i tab_ok 2 rfl ?_ rfl hH rfl rfl rfl rfl ?_; (focus (first | exact wN rfl | exact rfl)); refine ⟨?_, ?_, ?_⟩; rotate_left; (focus assumption))) | (refine gS rfl ?_; first | (refine hS1 tab_ok 0 rfl ?_ rfl rfl hH rfl rfl rfl rfl rfl ?_; (focus (first | exact wN rfl | exact rfl))) | (refine hS1 tab_ok 1 rfl ?_ rfl rfl hH rfl rfl rfl rfl rfl ?_; (focus (first | exact wN rfl | exact rfl))) | (refine hS1 tab_ok 2 rfl ?_ rfl rfl hH rfl rfl rfl rfl rfl ?_; (focus (first | exact wN rfl | exact rfl))) | (refine hSR tab_ok 0 rfl ?_ rfl rfl hH rfl rfl rfl rfl rfl ?_ ?_; (focus (first | exact wN rfl | exact rfl)); (focus (repeat (first | exact trivial | assumption | exact OkA.z (by kernel_rfl) (by kernel_rfl) | refine ⟨rfl, ?_⟩ | refine ⟨?_, ?_⟩)))) | (refine hSR tab_ok 1 rfl ?_ rfl rfl hH rfl rfl rfl rfl rfl ?_ ?_; (focus (first | exact wN rfl | exact rfl)); (focus (repeat (first | exact trivial | assumption | exact OkA.z (by kernel_rfl) (by kernel_rfl) | refine ⟨rfl, ?_⟩ | refine ⟨?_, ?_⟩)))) | (refine hSR tab_ok 2 rfl ?_ rfl rfl hH rfl rfl rfl rfl rfl ?_ ?_; (focus (first | exact wN rfl | exact rfl)); (focus (repeat (first | exact trivial | assumption | exact OkA.z (by kernel_rfl) (by kernel_rfl) | refine ⟨rfl, ?_⟩ | refine ⟨?_, ?_⟩))))) | (refine hAl tab_ok rfl ?_ hH rfl ?_; (focus (first | exact wN rfl | exact rfl))) | (refine hBx1 rfl ?_ rfl hH ?_; (focus (first | exact wN rfl | exact rfl))) | (refine hBx rfl ?_ rfl hH ?_ ?_; (focus (first | exact wN rfl | exact rfl)); (focus (repeat (first | exact trivial | assumption | exact OkA.z (by kernel_rfl) (by kernel_rfl) | refine ⟨rfl, ?_⟩ | refine ⟨?_, ?_⟩)))) | (refine hBd tab_ok rfl ?_ rfl rfl rfl hH ?_; (focus (first | exact wN rfl | exact rfl)); refine ⟨?_, ?_, ?_⟩; rotate_left; (focus (repeat (first | exact BR.nil | refine BR.one rfl rfl rfl ?_ | (refine BR.row rfl rfl rfl rfl ?_ ?_; (focus (repeat (first | exact trivial | assumption | exact OkA.z (by kernel_rfl) (by kernel_rfl) | refine ⟨rfl, ?_⟩ | refine ⟨?_, ?_⟩))))))))); clear hH; (first | intro W g hH | intro W hH); ((try simp only [Act.put, List.setIfInBounds_toArray, List.set_cons_succ, List.set_cons_zero]))))
  (first | refine retC Tryz.results4 tab_ok 0 rfl rfl hH rfl rfl rfl rfl ?_ | refine retC Tryz.results4 tab_ok 1 rfl rfl hH rfl rfl rfl rfl ?_ | refine retC Tryz.results4 tab_ok 2 rfl rfl hH rfl rfl rfl rfl ?_)
  have hT : fewE e = { e with src := l6 } := by unfold fewE; rw [hl6.out]
  rw [hT]
  exact EnPost.mk rfl (hH.sub (by first | exact SubH.keep (SubH.drop (SubH.drop SubH.nil)) | exact SubH.drop (SubH.keep (SubH.drop SubH.nil)) | exact SubH.drop (SubH.drop (SubH.keep SubH.nil))))
theorem hEntry {B : Nat} {w0 W : World} {H : HB} {e : En} {Q : Ending → World → Prop} (hH : Hp B w0 W H) (h : AdsAt W p e.src) (hR : ∀ W' g c q J l6, Hid (l6 = e.src.take 6) → Hp B w0 W' ((g, 24, true, [.many (adsL l6) (l6.length * 17), .many J q]) :: H) → Q (.returned (.agg (fls (enS ⟨e.vlan, e.grp, e.ex, l6⟩ (some ⟨g, 0, none⟩) c)).toArray)) W') :
    Calls Tryz.prog 4 #[.agg (fls (enS e p c')).toArray] W Q :=
  (entry_any h).mono fun _ _ ⟨g, c, q, J, he, hm⟩ => by subst he; exact hR _ g c q J _ (Lib.hid rfl) (hH.joinF hm)
theorem hEntryS {B : Nat} {w0 W : World} {H : HB} {k : Int} {G : Ad} {b : Bool} {l : List Ad} {Y : List Value} {Q : Ending → World → Prop} (hY : Hid (Y = adL G)) (hH : Hp B w0 W H) (h : AdsAt W p l) (hR : ∀ W' g c q J l6, Hid (l6 = l.take 6) → Hp B w0 W' ((g, 24, true, [.many (adsL l6) (l6.length * 17), .many J q]) :: H) → Q (.returned (.agg (fls [.one (.int .i64 k), .many Y 17, .one (.bool b), .one (.slice (some ⟨g, 0, none⟩) l6.length c)]).toArray)) W') :
    Calls Tryz.prog 4 #[.agg (fls [.one (.int .i64 k), .many Y 17, .one (.bool b), .one (.slice p l.length c')]).toArray] W Q := by
  obtain rfl := hY.out
  exact hEntry (e := ⟨k, G, b, l⟩) hH h hR
def EnsPost (w : World) (R : List En) (e : Ending) (w' : World) : Prop := ∃ g c D, e = .returned (.slice (some ⟨g, 0, none⟩) R.length c) ∧ Made w w' D ∧ ∀ B w0 W, Hp B w0 W D → EnsAt W (some ⟨g, 0, none⟩) R
theorem EnsPost.mk {w : World} {R : List En} {e : Ending} {w' : World} {g c : Nat} {D : HB} (h1 : e = .returned (.slice (some ⟨g, 0, none⟩) R.length c)) (h2 : Made w w' D) (h3 : ∀ B w0 W, Hp B w0 W D → EnsAt W (some ⟨g, 0, none⟩) R) : EnsPost w R e w' := ⟨g, c, D, h1, h2, h3⟩
end
end Go.Proofs.YtjegjgdihpihoaaGreatDoor
