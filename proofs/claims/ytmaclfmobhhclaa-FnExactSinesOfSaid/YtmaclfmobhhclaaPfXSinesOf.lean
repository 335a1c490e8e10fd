/- For each of the laws below: whatever the input, the law returns true, and its input reads as it did; without any condition. -/
import Derived.Test.YtmaclfmobhhclaaEvLaw
import Derived.Test.YtmaclfmobhhclaaSe3XSinesOf
import Derived.Test.YtmaclfmobhhclaaMaXSinesOf
import Derived.Test.YtmaclfmobhhclaaRows
namespace Go.Proofs.Ytmaclfmobhhclaa
open Go Go.Ev Go.Sh Go.RowKit Go.ChangeAt

theorem Try.own : ownKnob Try.prog.godebug = none := by kernel_rfl
theorem Try.laidOut : laidOutB Try.prog = true := by kernel_rfl

theorem laws_FnExactSinesOf_byF {α : Type} (F : Nat → Int → Int → Int → Int → Int → Int → (Bool → Option α) → Option α) (n : Nat) (aT : Int) (aT1 : Int) (aT2 : Int) (aT3 : Int) (aT4 : Int) (aT5 : Int) (κ : Res → Option α) : byShape laws_FnExactSinesOf_sh (laws_FnExactSinesOf_runG F n) [.agg [.int .i64 aT, .int .i64 aT1, .int .i64 aT2, .int .i64 aT3, .int .i64 aT4, .int .i64 aT5]] κ = F n aT aT1 aT2 aT3 aT4 aT5 (fun v1 => κ ⟨[.bool v1], []⟩) := by kernel_rfl
theorem laws_FnExactSinesOf_by {α : Type} (n : Nat) (aT : Int) (aT1 : Int) (aT2 : Int) (aT3 : Int) (aT4 : Int) (aT5 : Int) (κ : Res → Option α) : byShape laws_FnExactSinesOf_sh (laws_FnExactSinesOf_run n) [.agg [.int .i64 aT, .int .i64 aT1, .int .i64 aT2, .int .i64 aT3, .int .i64 aT4, .int .i64 aT5]] κ = laws_FnExactSinesOf n aT aT1 aT2 aT3 aT4 aT5 (fun v1 => κ ⟨[.bool v1], []⟩) := (congrArg (fun g => byShape laws_FnExactSinesOf_sh g [.agg [.int .i64 aT, .int .i64 aT1, .int .i64 aT2, .int .i64 aT3, .int .i64 aT4, .int .i64 aT5]] κ) (funext fun p => funext fun κ => laws_FnExactSinesOf_run.eq_1 n p κ)).trans (laws_FnExactSinesOf_byF laws_FnExactSinesOf n aT aT1 aT2 aT3 aT4 aT5 κ)
theorem laws_FnExactSinesOf_runs (ds : List D) (h : FitDs [.agg 6] ds) : ∃ k, byShape laws_FnExactSinesOf_sh (laws_FnExactSinesOf_run k) ds some = some ⟨[.bool true], []⟩ := by
  obtain ⟨d0, ds0, e0, hf0, hs0⟩ := fits_cons h
  obtain ⟨l0_0, hl0_0, ed0, hb0⟩ := hf0
  obtain ⟨aT, l0_1, el0_0, hl0_1⟩ := len_succ hl0_0
  obtain ⟨aT1, l0_2, el0_1, hl0_2⟩ := len_succ hl0_1
  obtain ⟨aT2, l0_3, el0_2, hl0_3⟩ := len_succ hl0_2
  obtain ⟨aT3, l0_4, el0_3, hl0_4⟩ := len_succ hl0_3
  obtain ⟨aT4, l0_5, el0_4, hl0_5⟩ := len_succ hl0_4
  obtain ⟨aT5, l0_6, el0_5, hl0_6⟩ := len_succ hl0_5
  have el0_6 := len_zero hl0_6
  subst el0_6
  subst el0_5
  subst el0_4
  subst el0_3
  subst el0_2
  subst el0_1
  subst el0_0
  subst ed0
  have el := fits_nil hs0
  subst el
  subst e0
  exact ⟨1000000001, (laws_FnExactSinesOf_by 1000000001 aT aT1 aT2 aT3 aT4 aT5 some).trans (law_SinesOf 1000000001 (by decide) aT aT1 aT2 aT3 aT4 aT5 _)⟩
set_option maxRecDepth 100000 in
theorem fnExactSinesOf_lifted (os : Os) (started : os.Started) (H : Type) (enc : TypeId × Value → H) :
    ReturnsInHanded {} Try.checked os 3 .any (Rows.fnExactSinesOfSpec.pre6 enc Try.prog Try.f3 Rows.fnExactSinesOfRow.domain false) (Rows.fnExactSinesOfSpec.post enc Try.prog Try.f3 false true false false) := by
  refine returnsInHanded_of_change (C := Try.checked) Try.own started (by kernel_rfl) Try.func3
    (ChangeSpec.witness6 (enc := enc) (C := Try.checked) false ⟨#[], #[.agg #[.int .i64 0, .int .i64 0, .int .i64 0, .int .i64 0, .int .i64 0, .int .i64 0]], []⟩ 8 (by kernel_rfl) (by kernel_rfl) (by kernel_rfl) (by kernel_rfl)) ?_
  intro W base args ds gs before hval hW hcnd _
  exact law_row (P := Try.prog) (fn := Try.f3) (tb := 4) Try.laidOut (by kernel_rfl) (by kernel_rfl) Try.underlying4 rfl laws_FnExactSinesOf_good (ks := [.agg 6]) (by kernel_rfl) laws_FnExactSinesOf_runs
    (fun ds h => match ds, h with | [_], _ => rfl) hval hW
set_option maxHeartbeats 100000000 in
set_option maxRecDepth 100000 in
theorem fnExactSinesOf_closed : joinedFacts Try.prog 3 Try.f3 Rows.fnExactSinesOfSpec Rows.fnExactSinesOfRow = true := by
  unfold joinedFacts
  repeat (with_reducible refine Bool.and_eq_true_iff.2 ⟨?_, by as_aux_lemma => kernel_rfl⟩)
  as_aux_lemma => kernel_rfl
theorem fnExactSinesOf_named : Try.prog.funcNamed Rows.fnExactSinesOfRow.func = some 3 := by kernel_rfl
theorem fnExactSinesOf_inst : Try.f3.isInstance Try.prog Rows.fnExactSinesOfRow.origin Rows.fnExactSinesOfRow.targs := of_decide_eq_true (by kernel_rfl)
theorem fnExactSinesOf_wrap : Try.f3.isWrapper Try.prog Rows.fnExactSinesOfRow.wrapper Rows.fnExactSinesOfRow.mainSum := by unfold Func.isWrapper; first | (rw [if_pos (by decide +kernel)]; kernel_rfl) | (rw [if_neg (by decide +kernel)]; exact ⟨rfl, rfl⟩)
theorem fnExactSinesOf_holds : Rows.FnExactSinesOfSaid :=
  OpenClaim.holds_of_wide 3 Try.f3 rfl rfl rfl rfl rfl rfl rfl ⟨rfl, rfl, rfl, rfl, rfl⟩ rfl rfl rfl rfl rfl fnExactSinesOf_named Try.func3 fnExactSinesOf_closed fnExactSinesOf_inst fnExactSinesOf_wrap
    (fun os started H enc _ => fnExactSinesOf_lifted os started H enc)

#print axioms fnExactSinesOf_holds
end Go.Proofs.Ytmaclfmobhhclaa
