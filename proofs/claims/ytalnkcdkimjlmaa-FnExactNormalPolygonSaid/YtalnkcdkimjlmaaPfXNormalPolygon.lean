/- For each of the laws below: whatever the input, the law returns true, and its input reads as it did; without any condition. -/
import Derived.Test.YtalnkcdkimjlmaaEvLaw
import Derived.Test.YtalnkcdkimjlmaaSe2XNormalPolygon
import Derived.Test.YtalnkcdkimjlmaaMaXNormalPolygon
import Derived.Test.YtalnkcdkimjlmaaRows
namespace Go.Proofs.Ytalnkcdkimjlmaa
open Go Go.Ev Go.Sh Go.RowKit Go.ChangeAt

theorem Try.own : ownKnob Try.prog.godebug = none := by kernel_rfl
theorem Try.laidOut : laidOutB Try.prog = true := by kernel_rfl

theorem laws_FnExactNormalPolygon_by {α : Type} (F : T10 α) (n : Nat) (aList : List (Int × Int)) (κ : Res → Option α) : byShape S43.sh (callS S43 F n) [.sl 34 .pt aList] κ = F n aList (fun v1 => κ ⟨[.bool v1], []⟩) := by kernel_rfl
theorem laws_FnExactNormalPolygon_runs (ds : List D) (h : FitDs [.sl 34 .pt] ds) : ∃ k, byShape S43.sh (callS S43 laws_FnExactNormalPolygon k) ds some = some ⟨[.bool true], []⟩ := by
  obtain ⟨d0, ds0, e0, hf0, hs0⟩ := fits_cons h
  obtain ⟨aList, ed0, hb0⟩ := hf0
  subst ed0
  have el := fits_nil hs0
  subst el
  subst e0
  exact ⟨1000000201, (laws_FnExactNormalPolygon_by laws_FnExactNormalPolygon 1000000201 aList some).trans (law_NormalPolygon 1000000201 (by decide) aList _ hb0.1)⟩
set_option maxRecDepth 100000 in
theorem fnExactNormalPolygon_lifted (os : Os) (started : os.Started) (H : Type) (enc : TypeId × Value → H) :
    ReturnsInHanded {} Try.checked os 3 .any (Rows.fnExactNormalPolygonSpec.pre6 enc Try.prog Try.f3 Rows.fnExactNormalPolygonRow.domain false) (Rows.fnExactNormalPolygonSpec.post enc Try.prog Try.f3 false true false false) := by
  refine returnsInHanded_of_change (C := Try.checked) Try.own started (by kernel_rfl) Try.func3
    (ChangeSpec.witness6 (enc := enc) (C := Try.checked) false ⟨#[], #[.slice none 0 0], []⟩ 8 (by kernel_rfl) (by kernel_rfl) (by kernel_rfl) (by kernel_rfl)) ?_
  intro W base args ds gs before hval hW hcnd _
  exact law_row (P := Try.prog) (fn := Try.f3) (tb := 4) Try.laidOut (by kernel_rfl) (by kernel_rfl) Try.underlying4 rfl h3_good (ks := [.sl 34 .pt]) (by kernel_rfl) laws_FnExactNormalPolygon_runs
    (fun ds h => match ds, h with | [_], _ => rfl) hval hW
set_option maxHeartbeats 100000000 in
set_option maxRecDepth 100000 in
theorem fnExactNormalPolygon_closed : joinedFacts Try.prog 3 Try.f3 Rows.fnExactNormalPolygonSpec Rows.fnExactNormalPolygonRow = true := by
  unfold joinedFacts
  repeat (with_reducible refine Bool.and_eq_true_iff.2 ⟨?_, by as_aux_lemma => kernel_rfl⟩)
  as_aux_lemma => kernel_rfl
theorem fnExactNormalPolygon_named : Try.prog.funcNamed Rows.fnExactNormalPolygonRow.func = some 3 := by kernel_rfl
theorem fnExactNormalPolygon_inst : Try.f3.isInstance Try.prog Rows.fnExactNormalPolygonRow.origin Rows.fnExactNormalPolygonRow.targs := of_decide_eq_true (by kernel_rfl)
theorem fnExactNormalPolygon_wrap : Try.f3.isWrapper Try.prog Rows.fnExactNormalPolygonRow.wrapper Rows.fnExactNormalPolygonRow.mainSum := by unfold Func.isWrapper; first | (rw [if_pos (by decide +kernel)]; kernel_rfl) | (rw [if_neg (by decide +kernel)]; exact ⟨rfl, rfl⟩)
theorem fnExactNormalPolygon_holds : Rows.FnExactNormalPolygonSaid :=
  OpenClaim.holds_of_wide 3 Try.f3 rfl rfl rfl rfl rfl rfl rfl ⟨rfl, rfl, rfl, rfl, rfl⟩ rfl rfl rfl rfl rfl fnExactNormalPolygon_named Try.func3 fnExactNormalPolygon_closed fnExactNormalPolygon_inst fnExactNormalPolygon_wrap
    (fun os started H enc _ => fnExactNormalPolygon_lifted os started H enc)

#print axioms fnExactNormalPolygon_holds
end Go.Proofs.Ytalnkcdkimjlmaa
