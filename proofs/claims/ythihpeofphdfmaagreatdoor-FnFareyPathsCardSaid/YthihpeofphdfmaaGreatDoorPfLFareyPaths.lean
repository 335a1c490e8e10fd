/- For each of the laws below: whatever the input, the law returns true, and its input reads as it did; without any condition. -/
import Derived.Test.YthihpeofphdfmaaGreatDoorEvLaw
import Derived.Test.YthihpeofphdfmaaGreatDoorSe2LFareyPaths
import Derived.Test.YthihpeofphdfmaaGreatDoorMaLFareyPaths
import Derived.Test.YthihpeofphdfmaaGreatDoorRows
import Derived.Test.YthihpeofphdfmaaGreatDoorCards
import Derived.Test.YthihpeofphdfmaaGreatDoorTie
import Derived.Lay
import Derived.LaidOnce
import Derived.SevenTiedAt
namespace Go.Proofs.YthihpeofphdfmaaGreatDoor
open Go Go.Ev Go.Sh Go.RowKit Go.ChangeAt
theorem Tryz.own : ownKnob Tryz.prog.godebug = none := by kernel_rfl
theorem Tryz.laidOut : laidOutB Tryz.prog = true := by kernel_rfl
theorem adl {α : Type} (F : T0 α) (n : Nat) (code : List Int) (κ : Res → Option α) : dJ S0.sh (gV S0 F n) [.sl 5 (.int .u8) code] κ = F n code (fun v1 => κ ⟨[.bool v1], []⟩) := by kernel_rfl
theorem acy (ds : List D) (h : adi [.sl 5 (.int .u8)] ds) : ∃ k, dJ S0.sh (gV S0 Ej k) ds some = some ⟨[.bool true], []⟩ := by
 obtain ⟨d0, ds0, e0, hf0, hs0⟩ := amL h
 obtain ⟨code, ed0, hb0⟩ := hf0
 subst ed0
 have el := aoJ hs0
 subst el
 subst e0
 exact ⟨1000003001, (adl Ej 1000003001 code some).trans (aff 1000003001 (by decide) code _ (fun x hx => hb0.2 x hx))⟩
set_option maxRecDepth 100000 in
theorem adN (os : Os) (started : os.Started) (H : Type) (enc : TypeId × Value → H) :
 ReturnsInHanded {} Tryz.checked os 3 .any (fun w args => (Rows.fnFareyPathsSpec.pre enc Tryz.prog Tryz.f3 [] false w args ∧ laidMetH Tryz.prog Rows.fnFareyPathsRow.laid w) ∧ sizedMet enc Tryz.prog Tryz.f3 (OpenSpec.ofChange Rows.fnFareyPathsSpec) false w args) (Rows.fnFareyPathsSpec.post enc Tryz.prog Tryz.f3 false true false false) := by
 refine returnsInHanded_of_change_and (C := Tryz.checked) (X := fun w _ => laidMetH Tryz.prog Rows.fnFareyPathsRow.laid w) (fun _ _ _ hh h => h.of_heap hh) Tryz.own started (by kernel_rfl) Tryz.func3
  (ChangeSpec.witness_shaped (enc := enc) (C := Tryz.checked) (os := os) (X := fun w _ => laidMetH Tryz.prog Rows.fnFareyPathsRow.laid w) false (World.laidAll Tryz.prog os Rows.fnFareyPathsRow.laid) #[.slice none 0 0] 8 (World.laidAll_os _ _ _)
    (World.shaped_of_ZipB (by kernel_rfl) (by kernel_rfl)) (by kernel_rfl) (by kernel_rfl) (by kernel_rfl)
    (by rw [MakeChecks.laidMetH_plain _ _ _ (by kernel_rfl)]; exact laidMet_laidAll _ (by kernel_rfl) (by kernel_rfl))) ?_
 intro W base args ds gs before hval hW _ _ _ _
 letI : Inhabited aX := ⟨⟨False⟩⟩
 exact apt (P := Tryz.prog) (fn := Tryz.f3) (tb := 4) Tryz.laidOut (by kernel_rfl) (by kernel_rfl) Tryz.underlying4 rfl (apF (fun h => h)) (ks := [.sl 5 (.int .u8)]) (by kernel_rfl) acy
  (fun ds h => match ds, h with | [_], _ => rfl) hval hW
set_option maxHeartbeats 100000000 in
set_option maxRecDepth 100000 in
theorem adM : joinedFacts Tryz.prog 3 Tryz.f3 Rows.fnFareyPathsSpec Rows.fnFareyPathsRow = true := by
 unfold joinedFacts
 repeat (with_reducible refine Bool.and_eq_true_iff.2 ⟨?_, by as_aux_lemma => kernel_rfl⟩)
 as_aux_lemma => kernel_rfl
theorem aaP : Tryz.prog.funcNamed Rows.fnFareyPathsRow.func = some 3 := by kernel_rfl
theorem aeK : Tryz.f3.isInstance Tryz.prog Rows.fnFareyPathsRow.origin Rows.fnFareyPathsRow.targs := of_decide_eq_true (by kernel_rfl)
theorem aeL : Tryz.f3.isWrapper Tryz.prog Rows.fnFareyPathsRow.wrapper Rows.fnFareyPathsRow.mainSum := by unfold Func.isWrapper; first | (rw [if_pos (by decide +kernel)]; kernel_rfl) | (rw [if_neg (by decide +kernel)]; exact ⟨rfl, rfl⟩)
theorem aed : Rows.FnFareyPathsSaid :=
 OpenClaim.holds_of_wide 3 Tryz.f3 rfl rfl rfl rfl rfl rfl rfl ⟨rfl, rfl, rfl, rfl, rfl⟩ rfl rfl rfl rfl rfl aaP Tryz.func3 adM aeK aeL
  (fun os started H enc _ => adN os started H enc)
theorem fnFareyPathsCard_holds : Rows.FnFareyPathsCardSaid :=
 Claim7.holds_tied_plain_at .later [] [.data, .pinned] true (true, "7afa7140e213a6aa48821750414c60eb9d9a03bef44088ae9a50c880c9882388") false aed (fun _ h => by cases h) (by kernel_rfl) (fun _ h => by cases h) fnFareyPaths_row_tie rfl ⟨rfl, rfl⟩ (by kernel_rfl) rfl
  (fun f fn hf hfn => by
    obtain rfl : f = 3 := Option.some.inj (aaP.symm.trans hf) |>.symm
    obtain rfl : fn = Tryz.f3 := (Option.some.inj (Tryz.func3.symm.trans hfn)).symm
    exact ⟨by kernel_rfl, fun j t ht => by
     rw [Tryz.params3] at ht
     have hm : t ∈ [22] := by simpa using Array.mem_of_getElem? ht
     have hall : ([22].all fun u => !Tryz.prog.wantsStandIn u) = true := by kernel_rfl
     exact (show Tryz.prog.wantsStandIn t = false by simpa using List.all_eq_true.1 hall t hm)⟩)
  (by kernel_rfl)
#print axioms fnFareyPathsCard_holds
end Go.Proofs.YthihpeofphdfmaaGreatDoor
