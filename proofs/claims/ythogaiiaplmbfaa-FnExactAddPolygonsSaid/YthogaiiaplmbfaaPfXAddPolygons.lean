/- For each of the laws below: whatever the input, the law returns true, and its input reads as it did; without any condition. -/
import Derived.Test.YthogaiiaplmbfaaEvLaw
import Derived.Test.YthogaiiaplmbfaaSe2XAddPolygons
import Derived.Test.YthogaiiaplmbfaaMaXAddPolygons
import Derived.Test.YthogaiiaplmbfaaRows
namespace Go.Proofs.Ythogaiiaplmbfaa
open Go Go.Ev Go.Sh Go.RowKit Go.ChangeAt

theorem Try.own : ownKnob Try.prog.godebug = none := by kernel_rfl
theorem Try.laidOut : laidOutB Try.prog = true := by kernel_rfl

theorem laws_FnExactAddPolygons_by {α : Type} (F : T45 α) (n : Nat) (aA : List (Int × Int)) (aB : List (Int × Int)) (κ : Res → Option α) : byShape S39.sh (callS S39 F n) [.sl 32 .pt aA, .sl 32 .pt aB] κ = F n aA aB (fun v1 => κ ⟨[.bool v1], []⟩) := by kernel_rfl
theorem laws_FnExactAddPolygons_runs (ds : List D) (h : FitDs [.sl 32 .pt, .sl 32 .pt] ds) : ∃ k, byShape S39.sh (callS S39 laws_FnExactAddPolygons k) ds some = some ⟨[.bool true], []⟩ := by
  obtain ⟨d0, ds0, e0, hf0, hs0⟩ := fits_cons h
  obtain ⟨aA, ed0, hb0⟩ := hf0
  subst ed0
  obtain ⟨d1, ds1, e1, hf1, hs1⟩ := fits_cons hs0
  obtain ⟨aB, ed1, hb1⟩ := hf1
  subst ed1
  have el := fits_nil hs1
  subst el
  subst e1
  subst e0
  exact ⟨3000001, (laws_FnExactAddPolygons_by laws_FnExactAddPolygons 3000001 aA aB some).trans (law_AddPolygons 3000001 (by decide) aA aB _ hb0.1 hb1.1)⟩
set_option maxRecDepth 100000 in
theorem fnExactAddPolygons_lifted (os : Os) (started : os.Started) (H : Type) (enc : TypeId × Value → H) :
    ReturnsInHanded {} Try.checked os 3 .any (Rows.fnExactAddPolygonsSpec.pre6 enc Try.prog Try.f3 Rows.fnExactAddPolygonsRow.domain false) (Rows.fnExactAddPolygonsSpec.post enc Try.prog Try.f3 false true false false) := by
  refine returnsInHanded_of_change (C := Try.checked) Try.own started (by kernel_rfl) Try.func3
    (ChangeSpec.witness6 (enc := enc) (C := Try.checked) false ⟨#[], #[.slice none 0 0, .slice none 0 0], []⟩ 8 (by kernel_rfl) (by kernel_rfl) (by kernel_rfl) (by kernel_rfl)) ?_
  intro W base args ds gs before hval hW hcnd _
  exact law_row (P := Try.prog) (fn := Try.f3) (tb := 4) Try.laidOut (by kernel_rfl) (by kernel_rfl) Try.underlying4 rfl h3_good (ks := [.sl 32 .pt, .sl 32 .pt]) (by kernel_rfl) laws_FnExactAddPolygons_runs
    (fun ds h => match ds, h with | [_, _], _ => rfl) hval hW
set_option maxHeartbeats 100000000 in
set_option maxRecDepth 100000 in
theorem fnExactAddPolygons_closed : joinedFacts Try.prog 3 Try.f3 Rows.fnExactAddPolygonsSpec Rows.fnExactAddPolygonsRow = true := by
  unfold joinedFacts
  repeat (with_reducible refine Bool.and_eq_true_iff.2 ⟨?_, by as_aux_lemma => kernel_rfl⟩)
  as_aux_lemma => kernel_rfl
theorem fnExactAddPolygons_named : Try.prog.funcNamed Rows.fnExactAddPolygonsRow.func = some 3 := by kernel_rfl
theorem fnExactAddPolygons_inst : Try.f3.isInstance Try.prog Rows.fnExactAddPolygonsRow.origin Rows.fnExactAddPolygonsRow.targs := of_decide_eq_true (by kernel_rfl)
theorem fnExactAddPolygons_wrap : Try.f3.isWrapper Try.prog Rows.fnExactAddPolygonsRow.wrapper Rows.fnExactAddPolygonsRow.mainSum := by unfold Func.isWrapper; first | (rw [if_pos (by decide +kernel)]; kernel_rfl) | (rw [if_neg (by decide +kernel)]; exact ⟨rfl, rfl⟩)
theorem fnExactAddPolygons_holds : Rows.FnExactAddPolygonsSaid :=
  OpenClaim.holds_of_wide 3 Try.f3 rfl rfl rfl rfl rfl rfl rfl ⟨rfl, rfl, rfl, rfl, rfl⟩ rfl rfl rfl rfl rfl fnExactAddPolygons_named Try.func3 fnExactAddPolygons_closed fnExactAddPolygons_inst fnExactAddPolygons_wrap
    (fun os started H enc _ => fnExactAddPolygons_lifted os started H enc)

#print axioms fnExactAddPolygons_holds
end Go.Proofs.Ythogaiiaplmbfaa
