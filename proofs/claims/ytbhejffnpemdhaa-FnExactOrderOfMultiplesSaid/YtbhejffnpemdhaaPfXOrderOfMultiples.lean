/- For each of the laws below: whatever the input, the law returns true, and its input reads as it did; without any condition. -/
import Derived.Test.YtbhejffnpemdhaaEvLaw
import Derived.Test.YtbhejffnpemdhaaSe2XOrderOfMultiples
import Derived.Test.YtbhejffnpemdhaaMaXOrderOfMultiples
import Derived.Test.YtbhejffnpemdhaaRows
namespace Go.Proofs.Ytbhejffnpemdhaa
open Go Go.Ev Go.Sh Go.RowKit Go.ChangeAt

theorem Try.own : ownKnob Try.prog.godebug = none := by kernel_rfl
theorem Try.laidOut : laidOutB Try.prog = true := by kernel_rfl

theorem laws_FnExactOrderOfMultiples_by {α : Type} (F : T0 α) (n : Nat) (aP : Int) (aQ : Int) (aN : Int) (κ : Res → Option α) : byShape S0.sh (callS S0 F n) [.int .i64 aP, .int .i64 aQ, .int .i64 aN] κ = F n aP aQ aN (fun v1 => κ ⟨[.bool v1], []⟩) := by kernel_rfl
theorem laws_FnExactOrderOfMultiples_runs (ds : List D) (h : FitDs [.int, .int, .int] ds) : ∃ k, byShape S0.sh (callS S0 laws_FnExactOrderOfMultiples k) ds some = some ⟨[.bool true], []⟩ := by
  obtain ⟨d0, ds0, e0, hf0, hs0⟩ := fits_cons h
  obtain ⟨aP, ed0, hb0⟩ := hf0
  subst ed0
  obtain ⟨d1, ds1, e1, hf1, hs1⟩ := fits_cons hs0
  obtain ⟨aQ, ed1, hb1⟩ := hf1
  subst ed1
  obtain ⟨d2, ds2, e2, hf2, hs2⟩ := fits_cons hs1
  obtain ⟨aN, ed2, hb2⟩ := hf2
  subst ed2
  have el := fits_nil hs2
  subst el
  subst e2
  subst e1
  subst e0
  exact ⟨100001, (laws_FnExactOrderOfMultiples_by laws_FnExactOrderOfMultiples 100001 aP aQ aN some).trans (law_OrderOfMultiples 100001 (by decide) aP aQ aN _)⟩
set_option maxRecDepth 100000 in
theorem fnExactOrderOfMultiples_lifted (os : Os) (started : os.Started) (H : Type) (enc : TypeId × Value → H) :
    ReturnsInHanded {} Try.checked os 3 .any (Rows.fnExactOrderOfMultiplesSpec.pre6 enc Try.prog Try.f3 Rows.fnExactOrderOfMultiplesRow.domain false) (Rows.fnExactOrderOfMultiplesSpec.post enc Try.prog Try.f3 false true false false) := by
  refine returnsInHanded_of_change (C := Try.checked) Try.own started (by kernel_rfl) Try.func3
    (ChangeSpec.witness6 (enc := enc) (C := Try.checked) false ⟨#[], #[.int .i64 0, .int .i64 0, .int .i64 0], []⟩ 8 (by kernel_rfl) (by kernel_rfl) (by kernel_rfl) (by kernel_rfl)) ?_
  intro W base args ds gs before hval hW hcnd _
  exact law_row (P := Try.prog) (fn := Try.f3) (tb := 4) Try.laidOut (by kernel_rfl) (by kernel_rfl) Try.underlying4 rfl h3_good (ks := [.int, .int, .int]) (by kernel_rfl) laws_FnExactOrderOfMultiples_runs
    (fun ds h => match ds, h with | [_, _, _], _ => rfl) hval hW
set_option maxHeartbeats 100000000 in
set_option maxRecDepth 100000 in
theorem fnExactOrderOfMultiples_closed : joinedFacts Try.prog 3 Try.f3 Rows.fnExactOrderOfMultiplesSpec Rows.fnExactOrderOfMultiplesRow = true := by
  unfold joinedFacts
  repeat (with_reducible refine Bool.and_eq_true_iff.2 ⟨?_, by as_aux_lemma => kernel_rfl⟩)
  as_aux_lemma => kernel_rfl
theorem fnExactOrderOfMultiples_named : Try.prog.funcNamed Rows.fnExactOrderOfMultiplesRow.func = some 3 := by kernel_rfl
theorem fnExactOrderOfMultiples_inst : Try.f3.isInstance Try.prog Rows.fnExactOrderOfMultiplesRow.origin Rows.fnExactOrderOfMultiplesRow.targs := of_decide_eq_true (by kernel_rfl)
theorem fnExactOrderOfMultiples_wrap : Try.f3.isWrapper Try.prog Rows.fnExactOrderOfMultiplesRow.wrapper Rows.fnExactOrderOfMultiplesRow.mainSum := by unfold Func.isWrapper; first | (rw [if_pos (by decide +kernel)]; kernel_rfl) | (rw [if_neg (by decide +kernel)]; exact ⟨rfl, rfl⟩)
theorem fnExactOrderOfMultiples_holds : Rows.FnExactOrderOfMultiplesSaid :=
  OpenClaim.holds_of_wide 3 Try.f3 rfl rfl rfl rfl rfl rfl rfl ⟨rfl, rfl, rfl, rfl, rfl⟩ rfl rfl rfl rfl rfl fnExactOrderOfMultiples_named Try.func3 fnExactOrderOfMultiples_closed fnExactOrderOfMultiples_inst fnExactOrderOfMultiples_wrap
    (fun os started H enc _ => fnExactOrderOfMultiples_lifted os started H enc)

#print axioms fnExactOrderOfMultiples_holds
end Go.Proofs.Ytbhejffnpemdhaa
