/- For each of the laws below: whatever the input, the law returns true, and its input reads as it did; without any condition. -/
import Derived.Test.YtglpddfibcikgaaEvLaw
import Derived.Test.YtglpddfibcikgaaSe5LPointMaps
import Derived.Test.YtglpddfibcikgaaMaLPointMaps
import Derived.Test.YtglpddfibcikgaaRows
namespace Go.Proofs.Ytglpddfibcikgaa
open Go Go.Ev Go.Sh Go.RowKit Go.ChangeAt

theorem Try.own : ownKnob Try.prog.godebug = none := by kernel_rfl
theorem Try.laidOut : laidOutB Try.prog = true := by kernel_rfl

theorem laws_FnPointMaps_byF {α : Type} (F : T0 α) (n : Nat) (code : List Int) (κ : Res → Option α) : byShape laws_FnPointMaps_sh (laws_FnPointMaps_runG F n) [.sl 5 (.int .u8) code] κ = F n code (fun v1 => κ ⟨[.bool v1], []⟩) := by kernel_rfl
theorem laws_FnPointMaps_by {α : Type} (n : Nat) (code : List Int) (κ : Res → Option α) : byShape laws_FnPointMaps_sh (laws_FnPointMaps_run n) [.sl 5 (.int .u8) code] κ = laws_FnPointMaps n code (fun v1 => κ ⟨[.bool v1], []⟩) := (congrArg (fun g => byShape laws_FnPointMaps_sh g [.sl 5 (.int .u8) code] κ) (funext fun p => funext fun κ => laws_FnPointMaps_run.eq_1 n p κ)).trans (laws_FnPointMaps_byF laws_FnPointMaps n code κ)
theorem laws_FnPointMaps_runs (ds : List D) (h : FitDs [.sl 5 (.int .u8)] ds) : ∃ k, byShape laws_FnPointMaps_sh (laws_FnPointMaps_run k) ds some = some ⟨[.bool true], []⟩ := by
  obtain ⟨d0, ds0, e0, hf0, hs0⟩ := fits_cons h
  obtain ⟨code, ed0, hb0⟩ := hf0
  subst ed0
  have el := fits_nil hs0
  subst el
  subst e0
  exact ⟨1000000001, (laws_FnPointMaps_by 1000000001 code some).trans (law_FnPointMaps 1000000001 (by decide) code _ (fun x hx => hb0.2 x hx))⟩
set_option maxRecDepth 100000 in
theorem fnPointMaps_lifted (os : Os) (started : os.Started) (H : Type) (enc : TypeId × Value → H) :
    ReturnsInHanded {} Try.checked os 3 .any (Rows.fnPointMapsSpec.pre6 enc Try.prog Try.f3 Rows.fnPointMapsRow.domain false) (Rows.fnPointMapsSpec.post enc Try.prog Try.f3 false true false false) := by
  refine returnsInHanded_of_change (C := Try.checked) Try.own started (by kernel_rfl) Try.func3
    (ChangeSpec.witness6 (enc := enc) (C := Try.checked) false ⟨#[], #[.slice none 0 0], []⟩ 8 (by kernel_rfl) (by kernel_rfl) (by kernel_rfl) (by kernel_rfl)) ?_
  intro W base args ds gs before hval hW hcnd _
  exact law_row (P := Try.prog) (fn := Try.f3) (tb := 4) Try.laidOut (by kernel_rfl) (by kernel_rfl) Try.underlying4 rfl laws_FnPointMaps_good (ks := [.sl 5 (.int .u8)]) (by kernel_rfl) laws_FnPointMaps_runs
    (fun ds h => match ds, h with | [_], _ => rfl) hval hW
set_option maxHeartbeats 100000000 in
set_option maxRecDepth 100000 in
theorem fnPointMaps_closed : joinedFacts Try.prog 3 Try.f3 Rows.fnPointMapsSpec Rows.fnPointMapsRow = true := by
  unfold joinedFacts
  repeat (with_reducible refine Bool.and_eq_true_iff.2 ⟨?_, by as_aux_lemma => kernel_rfl⟩)
  as_aux_lemma => kernel_rfl
theorem fnPointMaps_named : Try.prog.funcNamed Rows.fnPointMapsRow.func = some 3 := by kernel_rfl
theorem fnPointMaps_inst : Try.f3.isInstance Try.prog Rows.fnPointMapsRow.origin Rows.fnPointMapsRow.targs := of_decide_eq_true (by kernel_rfl)
theorem fnPointMaps_wrap : Try.f3.isWrapper Try.prog Rows.fnPointMapsRow.wrapper Rows.fnPointMapsRow.mainSum := by unfold Func.isWrapper; first | (rw [if_pos (by decide +kernel)]; kernel_rfl) | (rw [if_neg (by decide +kernel)]; exact ⟨rfl, rfl⟩)
theorem fnPointMaps_holds : Rows.FnPointMapsSaid :=
  OpenClaim.holds_of_wide 3 Try.f3 rfl rfl rfl rfl rfl rfl rfl ⟨rfl, rfl, rfl, rfl, rfl⟩ rfl rfl rfl rfl rfl fnPointMaps_named Try.func3 fnPointMaps_closed fnPointMaps_inst fnPointMaps_wrap
    (fun os started H enc _ => fnPointMaps_lifted os started H enc)

#print axioms fnPointMaps_holds
end Go.Proofs.Ytglpddfibcikgaa
