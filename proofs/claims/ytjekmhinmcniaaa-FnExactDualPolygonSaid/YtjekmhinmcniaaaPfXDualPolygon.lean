/- For each of the laws below: whatever the input, the law returns true, and its input reads as it did; without any condition. -/
import Derived.Test.YtjekmhinmcniaaaEvLaw
import Derived.Test.YtjekmhinmcniaaaSe4XDualPolygon
import Derived.Test.YtjekmhinmcniaaaMaXDualPolygon
import Derived.Test.YtjekmhinmcniaaaRows
namespace Go.Proofs.Ytjekmhinmcniaaa
open Go Go.Ev Go.Sh Go.RowKit Go.ChangeAt

theorem Try.own : ownKnob Try.prog.godebug = none := by kernel_rfl
theorem Try.laidOut : laidOutB Try.prog = true := by kernel_rfl

theorem laws_FnExactDualPolygon_byF {α : Type} (F : Nat → (List (Int × Int)) → (Bool → Option α) → Option α) (n : Nat) (aList : List (Int × Int)) (κ : Res → Option α) : byShape laws_FnExactDualPolygon_sh (laws_FnExactDualPolygon_runG F n) [.sl 22 .pt aList] κ = F n aList (fun v1 => κ ⟨[.bool v1], []⟩) := by kernel_rfl
theorem laws_FnExactDualPolygon_by {α : Type} (n : Nat) (aList : List (Int × Int)) (κ : Res → Option α) : byShape laws_FnExactDualPolygon_sh (laws_FnExactDualPolygon_run n) [.sl 22 .pt aList] κ = laws_FnExactDualPolygon n aList (fun v1 => κ ⟨[.bool v1], []⟩) := (congrArg (fun g => byShape laws_FnExactDualPolygon_sh g [.sl 22 .pt aList] κ) (funext fun p => funext fun κ => laws_FnExactDualPolygon_run.eq_1 n p κ)).trans (laws_FnExactDualPolygon_byF laws_FnExactDualPolygon n aList κ)
theorem laws_FnExactDualPolygon_runs (ds : List D) (h : FitDs [.sl 22 .pt] ds) : ∃ k, byShape laws_FnExactDualPolygon_sh (laws_FnExactDualPolygon_run k) ds some = some ⟨[.bool true], []⟩ := by
  obtain ⟨d0, ds0, e0, hf0, hs0⟩ := fits_cons h
  obtain ⟨aList, ed0, hb0⟩ := hf0
  subst ed0
  have el := fits_nil hs0
  subst el
  subst e0
  exact ⟨1000000101, (laws_FnExactDualPolygon_by 1000000101 aList some).trans (law_DualPolygon 1000000101 (by decide) aList _ hb0.1)⟩
set_option maxRecDepth 100000 in
theorem fnExactDualPolygon_lifted (os : Os) (started : os.Started) (H : Type) (enc : TypeId × Value → H) :
    ReturnsInHanded {} Try.checked os 8 .any (Rows.fnExactDualPolygonSpec.pre6 enc Try.prog Try.f8 Rows.fnExactDualPolygonRow.domain false) (Rows.fnExactDualPolygonSpec.post enc Try.prog Try.f8 false true false false) := by
  refine returnsInHanded_of_change (C := Try.checked) Try.own started (by kernel_rfl) Try.func8
    (ChangeSpec.witness6 (enc := enc) (C := Try.checked) false ⟨#[], #[.slice none 0 0], []⟩ 8 (by kernel_rfl) (by kernel_rfl) (by kernel_rfl) (by kernel_rfl)) ?_
  intro W base args ds gs before hval hW hcnd _
  exact law_row (P := Try.prog) (fn := Try.f8) (tb := 4) Try.laidOut (by kernel_rfl) (by kernel_rfl) Try.underlying4 rfl laws_FnExactDualPolygon_good (ks := [.sl 22 .pt]) (by kernel_rfl) laws_FnExactDualPolygon_runs
    (fun ds h => match ds, h with | [_], _ => rfl) hval hW
set_option maxHeartbeats 100000000 in
set_option maxRecDepth 100000 in
theorem fnExactDualPolygon_closed : joinedFacts Try.prog 8 Try.f8 Rows.fnExactDualPolygonSpec Rows.fnExactDualPolygonRow = true := by
  unfold joinedFacts
  repeat (with_reducible refine Bool.and_eq_true_iff.2 ⟨?_, by as_aux_lemma => kernel_rfl⟩)
  as_aux_lemma => kernel_rfl
theorem fnExactDualPolygon_named : Try.prog.funcNamed Rows.fnExactDualPolygonRow.func = some 8 := by kernel_rfl
theorem fnExactDualPolygon_inst : Try.f8.isInstance Try.prog Rows.fnExactDualPolygonRow.origin Rows.fnExactDualPolygonRow.targs := of_decide_eq_true (by kernel_rfl)
theorem fnExactDualPolygon_wrap : Try.f8.isWrapper Try.prog Rows.fnExactDualPolygonRow.wrapper Rows.fnExactDualPolygonRow.mainSum := by unfold Func.isWrapper; first | (rw [if_pos (by decide +kernel)]; kernel_rfl) | (rw [if_neg (by decide +kernel)]; exact ⟨rfl, rfl⟩)
theorem fnExactDualPolygon_holds : Rows.FnExactDualPolygonSaid :=
  OpenClaim.holds_of_wide 8 Try.f8 rfl rfl rfl rfl rfl rfl rfl ⟨rfl, rfl, rfl, rfl, rfl⟩ rfl rfl rfl rfl rfl fnExactDualPolygon_named Try.func8 fnExactDualPolygon_closed fnExactDualPolygon_inst fnExactDualPolygon_wrap
    (fun os started H enc _ => fnExactDualPolygon_lifted os started H enc)

#print axioms fnExactDualPolygon_holds
end Go.Proofs.Ytjekmhinmcniaaa
