/- For each of the laws below: whatever the input, the law returns true, and its input reads as it did; without any condition. -/
import Derived.Test.YtjekmhinmcniaaaEvLaw
import Derived.Test.YtjekmhinmcniaaaSe3LPairs
import Derived.Test.YtjekmhinmcniaaaMaLPairs
import Derived.Test.YtjekmhinmcniaaaRows
namespace Go.Proofs.Ytjekmhinmcniaaa
open Go Go.Ev Go.Sh Go.RowKit Go.ChangeAt

theorem Try.own : ownKnob Try.prog.godebug = none := by kernel_rfl
theorem Try.laidOut : laidOutB Try.prog = true := by kernel_rfl

theorem laws_FnPairs_byF {α : Type} (F : Nat → List Int → (Bool → Option α) → Option α) (n : Nat) (code : List Int) (κ : Res → Option α) : byShape laws_FnPairs_sh (laws_FnPairs_runG F n) [.sl 5 (.int .u8) code] κ = F n code (fun v1 => κ ⟨[.bool v1], []⟩) := by kernel_rfl
theorem laws_FnPairs_by {α : Type} (n : Nat) (code : List Int) (κ : Res → Option α) : byShape laws_FnPairs_sh (laws_FnPairs_run n) [.sl 5 (.int .u8) code] κ = laws_FnPairs n code (fun v1 => κ ⟨[.bool v1], []⟩) := (congrArg (fun g => byShape laws_FnPairs_sh g [.sl 5 (.int .u8) code] κ) (funext fun p => funext fun κ => laws_FnPairs_run.eq_1 n p κ)).trans (laws_FnPairs_byF laws_FnPairs n code κ)
theorem laws_FnPairs_runs (ds : List D) (h : FitDs [.sl 5 (.int .u8)] ds) : ∃ k, byShape laws_FnPairs_sh (laws_FnPairs_run k) ds some = some ⟨[.bool true], []⟩ := by
  obtain ⟨d0, ds0, e0, hf0, hs0⟩ := fits_cons h
  obtain ⟨code, ed0, hb0⟩ := hf0
  subst ed0
  have el := fits_nil hs0
  subst el
  subst e0
  exact ⟨8000000000002, (laws_FnPairs_by 8000000000002 code some).trans (law_FnPairs 8000000000002 (by decide) code _ (fun x hx => hb0.2 x hx))⟩
set_option maxRecDepth 100000 in
theorem fnPairs_lifted (os : Os) (started : os.Started) (H : Type) (enc : TypeId × Value → H) :
    ReturnsInHanded {} Try.checked os 4 .any (Rows.fnPairsSpec.pre6 enc Try.prog Try.f4 Rows.fnPairsRow.domain false) (Rows.fnPairsSpec.post enc Try.prog Try.f4 false true false false) := by
  refine returnsInHanded_of_change (C := Try.checked) Try.own started (by kernel_rfl) Try.func4
    (ChangeSpec.witness6 (enc := enc) (C := Try.checked) false ⟨#[], #[.slice none 0 0], []⟩ 8 (by kernel_rfl) (by kernel_rfl) (by kernel_rfl) (by kernel_rfl)) ?_
  intro W base args ds gs before hval hW hcnd _
  exact law_row (P := Try.prog) (fn := Try.f4) (tb := 4) Try.laidOut (by kernel_rfl) (by kernel_rfl) Try.underlying4 rfl laws_FnPairs_good (ks := [.sl 5 (.int .u8)]) (by kernel_rfl) laws_FnPairs_runs
    (fun ds h => match ds, h with | [_], _ => rfl) hval hW
set_option maxHeartbeats 100000000 in
set_option maxRecDepth 100000 in
theorem fnPairs_closed : joinedFacts Try.prog 4 Try.f4 Rows.fnPairsSpec Rows.fnPairsRow = true := by
  unfold joinedFacts
  repeat (with_reducible refine Bool.and_eq_true_iff.2 ⟨?_, by as_aux_lemma => kernel_rfl⟩)
  as_aux_lemma => kernel_rfl
theorem fnPairs_named : Try.prog.funcNamed Rows.fnPairsRow.func = some 4 := by kernel_rfl
theorem fnPairs_inst : Try.f4.isInstance Try.prog Rows.fnPairsRow.origin Rows.fnPairsRow.targs := of_decide_eq_true (by kernel_rfl)
theorem fnPairs_wrap : Try.f4.isWrapper Try.prog Rows.fnPairsRow.wrapper Rows.fnPairsRow.mainSum := by unfold Func.isWrapper; first | (rw [if_pos (by decide +kernel)]; kernel_rfl) | (rw [if_neg (by decide +kernel)]; exact ⟨rfl, rfl⟩)
theorem fnPairs_holds : Rows.FnPairsSaid :=
  OpenClaim.holds_of_wide 4 Try.f4 rfl rfl rfl rfl rfl rfl rfl ⟨rfl, rfl, rfl, rfl, rfl⟩ rfl rfl rfl rfl rfl fnPairs_named Try.func4 fnPairs_closed fnPairs_inst fnPairs_wrap
    (fun os started H enc _ => fnPairs_lifted os started H enc)

#print axioms fnPairs_holds
end Go.Proofs.Ytjekmhinmcniaaa
