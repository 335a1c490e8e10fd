/- For each of the laws below: whatever the input, the law returns true, and its input reads as it did; without any condition. -/
import Derived.Test.YtoejoijickfgaaaEvLaw
import Derived.Test.YtoejoijickfgaaaSe2XClassNumber
import Derived.Test.YtoejoijickfgaaaMaXClassNumber
import Derived.Test.YtoejoijickfgaaaRows
namespace Go.Proofs.Ytoejoijickfgaaa
open Go Go.Ev Go.Sh Go.RowKit Go.ChangeAt

theorem Try.own : ownKnob Try.prog.godebug = none := by kernel_rfl
theorem Try.laidOut : laidOutB Try.prog = true := by kernel_rfl

theorem laws_FnExactClassNumber_by {α : Type} (F : T16 α) (n : Nat) (aD : Int) (κ : Res → Option α) : byShape S10.sh (callS S10 F n) [.int .i64 aD] κ = F n aD (fun v1 => κ ⟨[.bool v1], []⟩) := by kernel_rfl
theorem laws_FnExactClassNumber_runs (ds : List D) (h : FitDs [.int] ds) : ∃ k, byShape S10.sh (callS S10 laws_FnExactClassNumber k) ds some = some ⟨[.bool true], []⟩ := by
  obtain ⟨d0, ds0, e0, hf0, hs0⟩ := fits_cons h
  obtain ⟨aD, ed0, hb0⟩ := hf0
  subst ed0
  have el := fits_nil hs0
  subst el
  subst e0
  exact ⟨100010001, (laws_FnExactClassNumber_by laws_FnExactClassNumber 100010001 aD some).trans (law_ClassNumber 100010001 (by decide) aD _)⟩
set_option maxRecDepth 100000 in
theorem fnExactClassNumber_lifted (os : Os) (started : os.Started) (H : Type) (enc : TypeId × Value → H) :
    ReturnsInHanded {} Try.checked os 3 .any (Rows.fnExactClassNumberSpec.pre6 enc Try.prog Try.f3 Rows.fnExactClassNumberRow.domain false) (Rows.fnExactClassNumberSpec.post enc Try.prog Try.f3 false true false false) := by
  refine returnsInHanded_of_change (C := Try.checked) Try.own started (by kernel_rfl) Try.func3
    (ChangeSpec.witness6 (enc := enc) (C := Try.checked) false ⟨#[], #[.int .i64 0], []⟩ 8 (by kernel_rfl) (by kernel_rfl) (by kernel_rfl) (by kernel_rfl)) ?_
  intro W base args ds gs before hval hW hcnd _
  exact law_row (P := Try.prog) (fn := Try.f3) (tb := 4) Try.laidOut (by kernel_rfl) (by kernel_rfl) Try.underlying4 rfl h3_good (ks := [.int]) (by kernel_rfl) laws_FnExactClassNumber_runs
    (fun ds h => match ds, h with | [_], _ => rfl) hval hW
set_option maxHeartbeats 100000000 in
set_option maxRecDepth 100000 in
theorem fnExactClassNumber_closed : joinedFacts Try.prog 3 Try.f3 Rows.fnExactClassNumberSpec Rows.fnExactClassNumberRow = true := by
  unfold joinedFacts
  repeat (with_reducible refine Bool.and_eq_true_iff.2 ⟨?_, by as_aux_lemma => kernel_rfl⟩)
  as_aux_lemma => kernel_rfl
theorem fnExactClassNumber_named : Try.prog.funcNamed Rows.fnExactClassNumberRow.func = some 3 := by kernel_rfl
theorem fnExactClassNumber_inst : Try.f3.isInstance Try.prog Rows.fnExactClassNumberRow.origin Rows.fnExactClassNumberRow.targs := of_decide_eq_true (by kernel_rfl)
theorem fnExactClassNumber_wrap : Try.f3.isWrapper Try.prog Rows.fnExactClassNumberRow.wrapper Rows.fnExactClassNumberRow.mainSum := by unfold Func.isWrapper; first | (rw [if_pos (by decide +kernel)]; kernel_rfl) | (rw [if_neg (by decide +kernel)]; exact ⟨rfl, rfl⟩)
theorem fnExactClassNumber_holds : Rows.FnExactClassNumberSaid :=
  OpenClaim.holds_of_wide 3 Try.f3 rfl rfl rfl rfl rfl rfl rfl ⟨rfl, rfl, rfl, rfl, rfl⟩ rfl rfl rfl rfl rfl fnExactClassNumber_named Try.func3 fnExactClassNumber_closed fnExactClassNumber_inst fnExactClassNumber_wrap
    (fun os started H enc _ => fnExactClassNumber_lifted os started H enc)

#print axioms fnExactClassNumber_holds
end Go.Proofs.Ytoejoijickfgaaa
