/- For each of the laws below: whatever the input, the law returns true, and its input reads as it did; without any condition. -/
import Derived.Test.YtfoblndfgolncaaEvLaw
import Derived.Test.YtfoblndfgolncaaSe2XHullOf
import Derived.Test.YtfoblndfgolncaaMaXHullOf
import Derived.Test.YtfoblndfgolncaaRows
namespace Go.Proofs.Ytfoblndfgolncaa
open Go Go.Ev Go.Sh Go.RowKit Go.ChangeAt

theorem Try.own : ownKnob Try.prog.godebug = none := by kernel_rfl
theorem Try.laidOut : laidOutB Try.prog = true := by kernel_rfl

theorem laws_FnExactHullOf_by {α : Type} (F : T17 α) (n : Nat) (aList : List (Int × Int)) (κ : Res → Option α) : byShape S40.sh (callS S40 F n) [.sl 32 .pt aList] κ = F n aList (fun v1 => κ ⟨[.bool v1], []⟩) := by kernel_rfl
theorem laws_FnExactHullOf_runs (ds : List D) (h : FitDs [.sl 32 .pt] ds) : ∃ k, byShape S40.sh (callS S40 laws_FnExactHullOf k) ds some = some ⟨[.bool true], []⟩ := by
  obtain ⟨d0, ds0, e0, hf0, hs0⟩ := fits_cons h
  obtain ⟨aList, ed0, hb0⟩ := hf0
  subst ed0
  have el := fits_nil hs0
  subst el
  subst e0
  exact ⟨3000001, (laws_FnExactHullOf_by laws_FnExactHullOf 3000001 aList some).trans (law_HullOf 3000001 (by decide) aList _ hb0.1)⟩
set_option maxRecDepth 100000 in
theorem fnExactHullOf_lifted (os : Os) (started : os.Started) (H : Type) (enc : TypeId × Value → H) :
    ReturnsInHanded {} Try.checked os 3 .any (Rows.fnExactHullOfSpec.pre6 enc Try.prog Try.f3 Rows.fnExactHullOfRow.domain false) (Rows.fnExactHullOfSpec.post enc Try.prog Try.f3 false true false false) := by
  refine returnsInHanded_of_change (C := Try.checked) Try.own started (by kernel_rfl) Try.func3
    (ChangeSpec.witness6 (enc := enc) (C := Try.checked) false ⟨#[], #[.slice none 0 0], []⟩ 8 (by kernel_rfl) (by kernel_rfl) (by kernel_rfl) (by kernel_rfl)) ?_
  intro W base args ds gs before hval hW hcnd _
  exact law_row (P := Try.prog) (fn := Try.f3) (tb := 4) Try.laidOut (by kernel_rfl) (by kernel_rfl) Try.underlying4 rfl h3_good (ks := [.sl 32 .pt]) (by kernel_rfl) laws_FnExactHullOf_runs
    (fun ds h => match ds, h with | [_], _ => rfl) hval hW
set_option maxHeartbeats 100000000 in
set_option maxRecDepth 100000 in
theorem fnExactHullOf_closed : joinedFacts Try.prog 3 Try.f3 Rows.fnExactHullOfSpec Rows.fnExactHullOfRow = true := by
  unfold joinedFacts
  repeat (with_reducible refine Bool.and_eq_true_iff.2 ⟨?_, by as_aux_lemma => kernel_rfl⟩)
  as_aux_lemma => kernel_rfl
theorem fnExactHullOf_named : Try.prog.funcNamed Rows.fnExactHullOfRow.func = some 3 := by kernel_rfl
theorem fnExactHullOf_inst : Try.f3.isInstance Try.prog Rows.fnExactHullOfRow.origin Rows.fnExactHullOfRow.targs := of_decide_eq_true (by kernel_rfl)
theorem fnExactHullOf_wrap : Try.f3.isWrapper Try.prog Rows.fnExactHullOfRow.wrapper Rows.fnExactHullOfRow.mainSum := by unfold Func.isWrapper; first | (rw [if_pos (by decide +kernel)]; kernel_rfl) | (rw [if_neg (by decide +kernel)]; exact ⟨rfl, rfl⟩)
theorem fnExactHullOf_holds : Rows.FnExactHullOfSaid :=
  OpenClaim.holds_of_wide 3 Try.f3 rfl rfl rfl rfl rfl rfl rfl ⟨rfl, rfl, rfl, rfl, rfl⟩ rfl rfl rfl rfl rfl fnExactHullOf_named Try.func3 fnExactHullOf_closed fnExactHullOf_inst fnExactHullOf_wrap
    (fun os started H enc _ => fnExactHullOf_lifted os started H enc)

#print axioms fnExactHullOf_holds
end Go.Proofs.Ytfoblndfgolncaa
