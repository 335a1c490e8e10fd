/- For each of the laws below: whatever the input, the law returns true, and its input reads as it did; without any condition. -/
import Derived.Test.YtbepofgmcchbdaaEvLaw
import Derived.Test.YtbepofgmcchbdaaSe2LForms
import Derived.Test.YtbepofgmcchbdaaMaLForms
import Derived.Test.YtbepofgmcchbdaaRows
namespace Go.Proofs.Ytbepofgmcchbdaa
open Go Go.Ev Go.Sh Go.RowKit Go.ChangeAt

theorem Try.own : ownKnob Try.prog.godebug = none := by kernel_rfl
theorem Try.laidOut : laidOutB Try.prog = true := by kernel_rfl

theorem laws_FnForms_by {α : Type} (F : T53 α) (n : Nat) (code : List Int) (κ : Res → Option α) : byShape S0.sh (callS S0 F n) [.sl 5 (.int .u8) code] κ = F n code (fun v1 => κ ⟨[.bool v1], []⟩) := by kernel_rfl
theorem laws_FnForms_runs (ds : List D) (h : FitDs [.sl 5 (.int .u8)] ds) : ∃ k, byShape S0.sh (callS S0 laws_FnForms k) ds some = some ⟨[.bool true], []⟩ := by
  obtain ⟨d0, ds0, e0, hf0, hs0⟩ := fits_cons h
  obtain ⟨code, ed0, hb0⟩ := hf0
  subst ed0
  have el := fits_nil hs0
  subst el
  subst e0
  exact ⟨100010001, (laws_FnForms_by laws_FnForms 100010001 code some).trans (law_FnForms 100010001 (by decide) code _ (fun x hx => hb0.2 x hx))⟩
set_option maxRecDepth 100000 in
theorem fnForms_lifted (os : Os) (started : os.Started) (H : Type) (enc : TypeId × Value → H) :
    ReturnsInHanded {} Try.checked os 3 .any (Rows.fnFormsSpec.pre6 enc Try.prog Try.f3 Rows.fnFormsRow.domain false) (Rows.fnFormsSpec.post enc Try.prog Try.f3 false true false false) := by
  refine returnsInHanded_of_change (C := Try.checked) Try.own started (by kernel_rfl) Try.func3
    (ChangeSpec.witness6 (enc := enc) (C := Try.checked) false ⟨#[], #[.slice none 0 0], []⟩ 8 (by kernel_rfl) (by kernel_rfl) (by kernel_rfl) (by kernel_rfl)) ?_
  intro W base args ds gs before hval hW hcnd _
  exact law_row (P := Try.prog) (fn := Try.f3) (tb := 4) Try.laidOut (by kernel_rfl) (by kernel_rfl) Try.underlying4 rfl h3_good (ks := [.sl 5 (.int .u8)]) (by kernel_rfl) laws_FnForms_runs
    (fun ds h => match ds, h with | [_], _ => rfl) hval hW
set_option maxHeartbeats 100000000 in
set_option maxRecDepth 100000 in
theorem fnForms_closed : joinedFacts Try.prog 3 Try.f3 Rows.fnFormsSpec Rows.fnFormsRow = true := by
  unfold joinedFacts
  repeat (with_reducible refine Bool.and_eq_true_iff.2 ⟨?_, by as_aux_lemma => kernel_rfl⟩)
  as_aux_lemma => kernel_rfl
theorem fnForms_named : Try.prog.funcNamed Rows.fnFormsRow.func = some 3 := by kernel_rfl
theorem fnForms_inst : Try.f3.isInstance Try.prog Rows.fnFormsRow.origin Rows.fnFormsRow.targs := of_decide_eq_true (by kernel_rfl)
theorem fnForms_wrap : Try.f3.isWrapper Try.prog Rows.fnFormsRow.wrapper Rows.fnFormsRow.mainSum := by unfold Func.isWrapper; first | (rw [if_pos (by decide +kernel)]; kernel_rfl) | (rw [if_neg (by decide +kernel)]; exact ⟨rfl, rfl⟩)
theorem fnForms_holds : Rows.FnFormsSaid :=
  OpenClaim.holds_of_wide 3 Try.f3 rfl rfl rfl rfl rfl rfl rfl ⟨rfl, rfl, rfl, rfl, rfl⟩ rfl rfl rfl rfl rfl fnForms_named Try.func3 fnForms_closed fnForms_inst fnForms_wrap
    (fun os started H enc _ => fnForms_lifted os started H enc)

#print axioms fnForms_holds
end Go.Proofs.Ytbepofgmcchbdaa
