/- For each of the laws below: whatever the input, the law returns true, and its input reads as it did; without any condition. -/
import Derived.Test.YtegnnbhphgeocaaEvLaw
import Derived.Test.YtegnnbhphgeocaaSe2XIsDesk
import Derived.Test.YtegnnbhphgeocaaMaXIsDesk
import Derived.Test.YtegnnbhphgeocaaRows
namespace Go.Proofs.Ytegnnbhphgeocaa
open Go Go.Ev Go.Sh Go.RowKit Go.ChangeAt

theorem Try.own : ownKnob Try.prog.godebug = none := by kernel_rfl
theorem Try.laidOut : laidOutB Try.prog = true := by kernel_rfl

theorem laws_FnExactIsDesk_by {α : Type} (n : Nat) (aD : Int) (aD1 : Int) (aD2 : Int) (aD3 : Int) (aD4 : Int) (aD5 : Int) (aD6 : Int) (aD7 : Int) (aD8 : Int) (aD9 : Int) (aD10 : Int) (κ : Res → Option α) : byShape laws_FnExactIsDesk_sh (laws_FnExactIsDesk_run n) [.agg [.int .i64 aD, .int .i64 aD1, .int .i64 aD2, .int .i64 aD3, .int .i64 aD4, .int .i64 aD5, .int .i64 aD6, .int .i64 aD7, .int .i64 aD8, .int .i64 aD9, .int .i64 aD10]] κ = laws_FnExactIsDesk n aD aD1 aD2 aD3 aD4 aD5 aD6 aD7 aD8 aD9 aD10 (fun v1 => κ ⟨[.bool v1], []⟩) := by kernel_rfl
theorem laws_FnExactIsDesk_runs (ds : List D) (h : FitDs [.agg 11] ds) : ∃ k, byShape laws_FnExactIsDesk_sh (laws_FnExactIsDesk_run k) ds some = some ⟨[.bool true], []⟩ := by
  obtain ⟨d0, ds0, e0, hf0, hs0⟩ := fits_cons h
  obtain ⟨l0_0, hl0_0, ed0, hb0⟩ := hf0
  obtain ⟨aD, l0_1, el0_0, hl0_1⟩ := len_succ hl0_0
  obtain ⟨aD1, l0_2, el0_1, hl0_2⟩ := len_succ hl0_1
  obtain ⟨aD2, l0_3, el0_2, hl0_3⟩ := len_succ hl0_2
  obtain ⟨aD3, l0_4, el0_3, hl0_4⟩ := len_succ hl0_3
  obtain ⟨aD4, l0_5, el0_4, hl0_5⟩ := len_succ hl0_4
  obtain ⟨aD5, l0_6, el0_5, hl0_6⟩ := len_succ hl0_5
  obtain ⟨aD6, l0_7, el0_6, hl0_7⟩ := len_succ hl0_6
  obtain ⟨aD7, l0_8, el0_7, hl0_8⟩ := len_succ hl0_7
  obtain ⟨aD8, l0_9, el0_8, hl0_9⟩ := len_succ hl0_8
  obtain ⟨aD9, l0_10, el0_9, hl0_10⟩ := len_succ hl0_9
  obtain ⟨aD10, l0_11, el0_10, hl0_11⟩ := len_succ hl0_10
  have el0_11 := len_zero hl0_11
  subst el0_11
  subst el0_10
  subst el0_9
  subst el0_8
  subst el0_7
  subst el0_6
  subst el0_5
  subst el0_4
  subst el0_3
  subst el0_2
  subst el0_1
  subst el0_0
  subst ed0
  have el := fits_nil hs0
  subst el
  subst e0
  exact ⟨65, (laws_FnExactIsDesk_by 65 aD aD1 aD2 aD3 aD4 aD5 aD6 aD7 aD8 aD9 aD10 some).trans (law_IsDesk 65 (by decide) aD aD1 aD2 aD3 aD4 aD5 aD6 aD7 aD8 aD9 aD10 _)⟩
set_option maxRecDepth 100000 in
theorem fnExactIsDesk_lifted (os : Os) (started : os.Started) (H : Type) (enc : TypeId × Value → H) :
    ReturnsInHanded {} Try.checked os 7 .any (Rows.fnExactIsDeskSpec.pre6 enc Try.prog Try.f7 Rows.fnExactIsDeskRow.domain false) (Rows.fnExactIsDeskSpec.post enc Try.prog Try.f7 false true false false) := by
  refine returnsInHanded_of_change (C := Try.checked) Try.own started (by kernel_rfl) Try.func7
    (ChangeSpec.witness6 (enc := enc) (C := Try.checked) false ⟨#[], #[.agg #[.int .i64 0, .int .i64 0, .int .i64 0, .int .i64 0, .int .i64 0, .int .i64 0, .int .i64 0, .int .i64 0, .int .i64 0, .int .i64 0, .int .i64 0]], []⟩ 8 (by kernel_rfl) (by kernel_rfl) (by kernel_rfl) (by kernel_rfl)) ?_
  intro W base args ds gs before hval hW hcnd _
  exact law_row (P := Try.prog) (fn := Try.f7) (tb := 4) Try.laidOut (by kernel_rfl) (by kernel_rfl) Try.underlying4 rfl laws_FnExactIsDesk_good (ks := [.agg 11]) (by kernel_rfl) laws_FnExactIsDesk_runs
    (fun ds h => match ds, h with | [_], _ => rfl) hval hW
theorem fnExactIsDesk_holds : Rows.FnExactIsDeskSaid :=
  OpenClaim.holds_of_wide 7 Try.f7 rfl rfl rfl rfl rfl rfl rfl ⟨rfl, rfl, rfl, rfl, rfl⟩ rfl rfl rfl rfl rfl (by kernel_rfl) Try.func7 (by kernel_rfl)
    (of_decide_eq_true (by kernel_rfl)) (by unfold Func.isWrapper; first | (rw [if_pos (by decide +kernel)]; kernel_rfl) | (rw [if_neg (by decide +kernel)]; exact ⟨rfl, rfl⟩))
    (fun os started H enc _ => fnExactIsDesk_lifted os started H enc)

#print axioms fnExactIsDesk_holds
end Go.Proofs.Ytegnnbhphgeocaa
