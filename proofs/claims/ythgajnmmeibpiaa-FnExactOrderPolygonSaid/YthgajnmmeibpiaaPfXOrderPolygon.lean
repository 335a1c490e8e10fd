/- For each of the laws below: whatever the input, the law returns true, and its input reads as it did; without any condition. -/
import Derived.Test.YthgajnmmeibpiaaEvLaw
import Derived.Test.YthgajnmmeibpiaaSe3XOrderPolygon
import Derived.Test.YthgajnmmeibpiaaMaXOrderPolygon
import Derived.Test.YthgajnmmeibpiaaRows
namespace Go.Proofs.Ythgajnmmeibpiaa
open Go Go.Ev Go.Sh Go.RowKit Go.ChangeAt

theorem Try.own : ownKnob Try.prog.godebug = none := by kernel_rfl
theorem Try.laidOut : laidOutB Try.prog = true := by kernel_rfl

theorem laws_FnExactOrderPolygon_byF {α : Type} (F : T10 α) (n : Nat) (aList : List (Int × Int)) (κ : Res → Option α) : byShape laws_FnExactOrderPolygon_sh (laws_FnExactOrderPolygon_runG F n) [.sl 33 .pt aList] κ = F n aList (fun v1 => κ ⟨[.bool v1], []⟩) := by kernel_rfl
theorem laws_FnExactOrderPolygon_by {α : Type} (n : Nat) (aList : List (Int × Int)) (κ : Res → Option α) : byShape laws_FnExactOrderPolygon_sh (laws_FnExactOrderPolygon_run n) [.sl 33 .pt aList] κ = laws_FnExactOrderPolygon n aList (fun v1 => κ ⟨[.bool v1], []⟩) := (congrArg (fun g => byShape laws_FnExactOrderPolygon_sh g [.sl 33 .pt aList] κ) (funext fun p => funext fun κ => laws_FnExactOrderPolygon_run.eq_1 n p κ)).trans (laws_FnExactOrderPolygon_byF laws_FnExactOrderPolygon n aList κ)
theorem laws_FnExactOrderPolygon_runs (ds : List D) (h : FitDs [.sl 33 .pt] ds) : ∃ k, byShape laws_FnExactOrderPolygon_sh (laws_FnExactOrderPolygon_run k) ds some = some ⟨[.bool true], []⟩ := by
  obtain ⟨d0, ds0, e0, hf0, hs0⟩ := fits_cons h
  obtain ⟨aList, ed0, hb0⟩ := hf0
  subst ed0
  have el := fits_nil hs0
  subst el
  subst e0
  exact ⟨1000000101, (laws_FnExactOrderPolygon_by 1000000101 aList some).trans (law_OrderPolygon 1000000101 (by decide) aList _ hb0.1)⟩
set_option maxRecDepth 100000 in
theorem fnExactOrderPolygon_lifted (os : Os) (started : os.Started) (H : Type) (enc : TypeId × Value → H) :
    ReturnsInHanded {} Try.checked os 3 .any (Rows.fnExactOrderPolygonSpec.pre6 enc Try.prog Try.f3 Rows.fnExactOrderPolygonRow.domain false) (Rows.fnExactOrderPolygonSpec.post enc Try.prog Try.f3 false true false false) := by
  refine returnsInHanded_of_change (C := Try.checked) Try.own started (by kernel_rfl) Try.func3
    (ChangeSpec.witness6 (enc := enc) (C := Try.checked) false ⟨#[], #[.slice none 0 0], []⟩ 8 (by kernel_rfl) (by kernel_rfl) (by kernel_rfl) (by kernel_rfl)) ?_
  intro W base args ds gs before hval hW hcnd _
  exact law_row (P := Try.prog) (fn := Try.f3) (tb := 4) Try.laidOut (by kernel_rfl) (by kernel_rfl) Try.underlying4 rfl laws_FnExactOrderPolygon_good (ks := [.sl 33 .pt]) (by kernel_rfl) laws_FnExactOrderPolygon_runs
    (fun ds h => match ds, h with | [_], _ => rfl) hval hW
set_option maxHeartbeats 100000000 in
set_option maxRecDepth 100000 in
theorem fnExactOrderPolygon_closed : joinedFacts Try.prog 3 Try.f3 Rows.fnExactOrderPolygonSpec Rows.fnExactOrderPolygonRow = true := by
  unfold joinedFacts
  repeat (with_reducible refine Bool.and_eq_true_iff.2 ⟨?_, by as_aux_lemma => kernel_rfl⟩)
  as_aux_lemma => kernel_rfl
theorem fnExactOrderPolygon_named : Try.prog.funcNamed Rows.fnExactOrderPolygonRow.func = some 3 := by kernel_rfl
theorem fnExactOrderPolygon_inst : Try.f3.isInstance Try.prog Rows.fnExactOrderPolygonRow.origin Rows.fnExactOrderPolygonRow.targs := of_decide_eq_true (by kernel_rfl)
theorem fnExactOrderPolygon_wrap : Try.f3.isWrapper Try.prog Rows.fnExactOrderPolygonRow.wrapper Rows.fnExactOrderPolygonRow.mainSum := by unfold Func.isWrapper; first | (rw [if_pos (by decide +kernel)]; kernel_rfl) | (rw [if_neg (by decide +kernel)]; exact ⟨rfl, rfl⟩)
theorem fnExactOrderPolygon_holds : Rows.FnExactOrderPolygonSaid :=
  OpenClaim.holds_of_wide 3 Try.f3 rfl rfl rfl rfl rfl rfl rfl ⟨rfl, rfl, rfl, rfl, rfl⟩ rfl rfl rfl rfl rfl fnExactOrderPolygon_named Try.func3 fnExactOrderPolygon_closed fnExactOrderPolygon_inst fnExactOrderPolygon_wrap
    (fun os started H enc _ => fnExactOrderPolygon_lifted os started H enc)

#print axioms fnExactOrderPolygon_holds
end Go.Proofs.Ythgajnmmeibpiaa
