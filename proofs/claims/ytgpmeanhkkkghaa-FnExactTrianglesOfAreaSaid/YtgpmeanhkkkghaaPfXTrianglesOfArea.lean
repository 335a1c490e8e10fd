/- For each of the laws below: whatever the input, the law returns true, and its input reads as it did; without any condition. -/
import Derived.Test.YtgpmeanhkkkghaaEvLaw
import Derived.Test.YtgpmeanhkkkghaaSe2XTrianglesOfArea
import Derived.Test.YtgpmeanhkkkghaaMaXTrianglesOfArea
import Derived.Test.YtgpmeanhkkkghaaRows
namespace Go.Proofs.Ytgpmeanhkkkghaa
open Go Go.Ev Go.Sh Go.RowKit Go.ChangeAt

theorem Try.own : ownKnob Try.prog.godebug = none := by kernel_rfl
theorem Try.laidOut : laidOutB Try.prog = true := by kernel_rfl

theorem laws_FnExactTrianglesOfArea_by {α : Type} (F : T19 α) (n : Nat) (aN : Int) (κ : Res → Option α) : byShape S16.sh (callS S16 F n) [.int .i64 aN] κ = F n aN (fun v1 => κ ⟨[.bool v1], []⟩) := by kernel_rfl
theorem laws_FnExactTrianglesOfArea_runs (ds : List D) (h : FitDs [.int] ds) : ∃ k, byShape S16.sh (callS S16 laws_FnExactTrianglesOfArea k) ds some = some ⟨[.bool true], []⟩ := by
  obtain ⟨d0, ds0, e0, hf0, hs0⟩ := fits_cons h
  obtain ⟨aN, ed0, hb0⟩ := hf0
  subst ed0
  have el := fits_nil hs0
  subst el
  subst e0
  exact ⟨1003000001, (laws_FnExactTrianglesOfArea_by laws_FnExactTrianglesOfArea 1003000001 aN some).trans (law_TrianglesOfArea 1003000001 (by decide) aN _)⟩
set_option maxRecDepth 100000 in
theorem fnExactTrianglesOfArea_lifted (os : Os) (started : os.Started) (H : Type) (enc : TypeId × Value → H) :
    ReturnsInHanded {} Try.checked os 3 .any (Rows.fnExactTrianglesOfAreaSpec.pre6 enc Try.prog Try.f3 Rows.fnExactTrianglesOfAreaRow.domain false) (Rows.fnExactTrianglesOfAreaSpec.post enc Try.prog Try.f3 false true false false) := by
  refine returnsInHanded_of_change (C := Try.checked) Try.own started (by kernel_rfl) Try.func3
    (ChangeSpec.witness6 (enc := enc) (C := Try.checked) false ⟨#[], #[.int .i64 0], []⟩ 8 (by kernel_rfl) (by kernel_rfl) (by kernel_rfl) (by kernel_rfl)) ?_
  intro W base args ds gs before hval hW hcnd _
  exact law_row (P := Try.prog) (fn := Try.f3) (tb := 4) Try.laidOut (by kernel_rfl) (by kernel_rfl) Try.underlying4 rfl h3_good (ks := [.int]) (by kernel_rfl) laws_FnExactTrianglesOfArea_runs
    (fun ds h => match ds, h with | [_], _ => rfl) hval hW
set_option maxHeartbeats 100000000 in
set_option maxRecDepth 100000 in
theorem fnExactTrianglesOfArea_closed : joinedFacts Try.prog 3 Try.f3 Rows.fnExactTrianglesOfAreaSpec Rows.fnExactTrianglesOfAreaRow = true := by
  unfold joinedFacts
  repeat (with_reducible refine Bool.and_eq_true_iff.2 ⟨?_, by as_aux_lemma => kernel_rfl⟩)
  as_aux_lemma => kernel_rfl
theorem fnExactTrianglesOfArea_named : Try.prog.funcNamed Rows.fnExactTrianglesOfAreaRow.func = some 3 := by kernel_rfl
theorem fnExactTrianglesOfArea_inst : Try.f3.isInstance Try.prog Rows.fnExactTrianglesOfAreaRow.origin Rows.fnExactTrianglesOfAreaRow.targs := of_decide_eq_true (by kernel_rfl)
theorem fnExactTrianglesOfArea_wrap : Try.f3.isWrapper Try.prog Rows.fnExactTrianglesOfAreaRow.wrapper Rows.fnExactTrianglesOfAreaRow.mainSum := by unfold Func.isWrapper; first | (rw [if_pos (by decide +kernel)]; kernel_rfl) | (rw [if_neg (by decide +kernel)]; exact ⟨rfl, rfl⟩)
theorem fnExactTrianglesOfArea_holds : Rows.FnExactTrianglesOfAreaSaid :=
  OpenClaim.holds_of_wide 3 Try.f3 rfl rfl rfl rfl rfl rfl rfl ⟨rfl, rfl, rfl, rfl, rfl⟩ rfl rfl rfl rfl rfl fnExactTrianglesOfArea_named Try.func3 fnExactTrianglesOfArea_closed fnExactTrianglesOfArea_inst fnExactTrianglesOfArea_wrap
    (fun os started H enc _ => fnExactTrianglesOfArea_lifted os started H enc)

#print axioms fnExactTrianglesOfArea_holds
end Go.Proofs.Ytgpmeanhkkkghaa
