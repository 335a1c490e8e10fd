/- The program's functions hold to their readings without memory: printed by a program of ours. -/
import Derived.Test.YthihpeofphdfmaaGreatDoorSeLFareyPaths
namespace Go.Proofs.YthihpeofphdfmaaGreatDoor
open Go Go.Ev Go.Sh Go.Proofs
variable {α : Type}
abbrev h4_x : Nat → Ctx α := ctxS o0 M eqs jt0 [] []
theorem h4_g (n : Nat) : GenF (α := α) Tryz.prog Tryz.f4 S0 (h4_x n) n (af5) := by intro _ _; kernel_rfl
theorem apO [Inhabited aX] {α : Type} : ∀ n, fV (α := α) Tryz.prog 4 (dJ S0.sh (gV S0 iK n)) := fJ Tryz.func4 (by kernel_rfl) (by kernel_rfl) (by kernel_rfl) gW (fun n => h4_g n) rfl allN allN
def al0 : Tpl := ⟨(.sl 0 :: (.any :: (.any :: (.ptr 704 0 0 :: (.int .i64 :: (anyN 33 [])))))), [(0, .rows 0 5 (.int .u8)), (704, .mix 2 96 [.sl 0, .int .i64, .int .u64])], [], false⟩
def am6 : PcS := zJ [.int, .rows (.int .u8), .int, .int] [0]
abbrev apk (G3 : T1 α) : Nat → Ctx α := ctxS o0 M eqs jt0 [] [lpT 3 al0 am6 R1 G3]
theorem aqt (G3 : T1 α) (n : Nat) : GenL (α := α) Tryz.prog Tryz.f37 S1 (apk G3 n) 3 al0 am6 n G3 (fun k => Nw (G3 k) k) := by intro _ _ _ _ _ _; kernel_rfl
theorem ar8 (G3 : T1 α) (n : Nat) : GenF (α := α) Tryz.prog Tryz.f37 S1 (apk G3 n) n (acF G3) := by intro _ _; kernel_rfl
theorem TJ [Inhabited aX] {α : Type} : ∀ n, fV (α := α) Tryz.prog 37 (dJ S1.sh (gV S1 lJ n)) := fJ Tryz.func37 (by kernel_rfl) (by kernel_rfl) (by kernel_rfl) gW (fun n => ar8 vY n) rfl allN (allC (mW (by kernel_rfl) (fun n => (vY.eq_2 ..).symm) (fun n => aqt vY n)) allN)
abbrev asY : Nat → Ctx α := ctxS o0 M eqs jt0 [] []
theorem auD (n : Nat) : GenF (α := α) Tryz.prog Tryz.f51 S2 (asY n) n (acO) := by intro _ _ _ _ _; kernel_rfl
theorem Gw [Inhabited aX] {α : Type} : ∀ n, fV (α := α) Tryz.prog 51 (dJ S2.sh (gV S2 iy n)) := fJ Tryz.func51 (by kernel_rfl) (by kernel_rfl) (by kernel_rfl) gW (fun n => auD n) rfl allN allN
abbrev auk (F0 : T3 α) : Nat → Ctx α := ctxS o0 M eqs jt0 [⟨51, S2, F0⟩] []
theorem arO (F0 : T3 α) (n : Nat) : GenF (α := α) Tryz.prog Tryz.f68 S3 (auk F0 n) n (Zw F0) := by intro _ _ _ _ _; kernel_rfl
theorem abT [Inhabited aX] {α : Type} : ∀ n, fV (α := α) Tryz.prog 68 (dJ S3.sh (gV S3 oz n)) := fJ Tryz.func68 (by kernel_rfl) (by kernel_rfl) (by kernel_rfl) gW (fun n => arO iy n) rfl (allC Gw allN) allN
abbrev auv (F0 : T3 α) : Nat → Ctx α := ctxS o0 M eqs jt0 [⟨51, S2, F0⟩] []
theorem asD (F0 : T3 α) (n : Nat) : GenF (α := α) Tryz.prog Tryz.f98 S4 (auv F0 n) n (Qy F0) := by intro _ _ _ _ _; kernel_rfl
theorem ajn [Inhabited aX] {α : Type} : ∀ n, fV (α := α) Tryz.prog 98 (dJ S4.sh (gV S4 uy n)) := fJ Tryz.func98 (by kernel_rfl) (by kernel_rfl) (by kernel_rfl) gW (fun n => asD iy n) rfl (allC Gw allN) allN
def alb : Tpl := ⟨(.int .i64 :: (.int .i64 :: (anyN 15 []))), [], [], false⟩
def amS : PcS := zJ [.int, .int] [0]
abbrev aoZ (G1 : T6 α) : Nat → Ctx α := ctxS o0 M eqs jt0 [] [lpT 1 alb amS R4 G1]
theorem arw (G1 : T6 α) (n : Nat) : GenL (α := α) Tryz.prog Tryz.f75 S5 (aoZ G1 n) 1 alb amS n G1 (fun k => Rz (G1 k) k) := by intro _ _ _ _; kernel_rfl
theorem as8 (G1 : T6 α) (n : Nat) : GenF (α := α) Tryz.prog Tryz.f75 S5 (aoZ G1 n) n (aa3 G1) := by intro _ _ _; kernel_rfl
theorem ae8 [Inhabited aX] {α : Type} : ∀ n, fV (α := α) Tryz.prog 75 (dJ S5.sh (gV S5 CV n)) := fJ Tryz.func75 (by kernel_rfl) (by kernel_rfl) (by kernel_rfl) gW (fun n => as8 ww n) rfl allN (allC (mW (by kernel_rfl) (fun n => (ww.eq_2 ..).symm) (fun n => arw ww n)) allN)
abbrev asN (F0 : T7 α) : Nat → Ctx α := ctxS o0 M eqs jt0 [⟨75, S5, F0⟩] []
theorem ash (F0 : T7 α) (n : Nat) : GenF (α := α) Tryz.prog Tryz.f99 S6 (asN F0 n) n (aaf F0) := by intro _ _ _; kernel_rfl
theorem anX [Inhabited aX] {α : Type} : ∀ n, fV (α := α) Tryz.prog 99 (dJ S6.sh (gV S6 Tj n)) := fJ Tryz.func99 (by kernel_rfl) (by kernel_rfl) (by kernel_rfl) gW (fun n => ash CV n) rfl (allC ae8 allN) allN
abbrev asT (F0 : T5 α) (F1 : T8 α) : Nat → Ctx α := ctxS o0 M eqs jt0 [⟨98, S4, F0⟩, ⟨99, S6, F1⟩] []
theorem auq (F0 : T5 α) (F1 : T8 α) (n : Nat) : GenF (α := α) Tryz.prog Tryz.f73 S4 (asT F0 F1 n) n (Aw F0 F1) := by intro _ _ _ _ _; kernel_rfl
theorem ai9 [Inhabited aX] {α : Type} : ∀ n, fV (α := α) Tryz.prog 73 (dJ S4.sh (gV S4 oJ n)) := fJ Tryz.func73 (by kernel_rfl) (by kernel_rfl) (by kernel_rfl) gW (fun n => auq uy Tj n) rfl (allC ajn (allC anX allN)) allN
abbrev atD : Nat → Ctx α := ctxS o0 M eqs jt0 [] []
theorem atS (n : Nat) : GenF (α := α) Tryz.prog Tryz.f76 S6 (atD n) n (LX) := by intro _ _ _; kernel_rfl
theorem aac [Inhabited aX] {α : Type} : ∀ n, fV (α := α) Tryz.prog 76 (dJ S6.sh (gV S6 lW n)) := fJ Tryz.func76 (by kernel_rfl) (by kernel_rfl) (by kernel_rfl) gW (fun n => atS n) rfl allN allN
abbrev auw (F0 : T5 α) (F1 : T8 α) : Nat → Ctx α := ctxS o0 M eqs jt0 [⟨73, S4, F0⟩, ⟨76, S6, F1⟩] []
theorem au2 (F0 : T5 α) (F1 : T8 α) (n : Nat) : GenF (α := α) Tryz.prog Tryz.f80 S4 (auw F0 F1 n) n (WY F0 F1) := by intro _ _ _ _ _; kernel_rfl
theorem aoq [Inhabited aX] {α : Type} : ∀ n, fV (α := α) Tryz.prog 80 (dJ S4.sh (gV S4 MV n)) := fJ Tryz.func80 (by kernel_rfl) (by kernel_rfl) (by kernel_rfl) gW (fun n => au2 oJ lW n) rfl (allC ai9 (allC aac allN)) allN
abbrev aty : Nat → Ctx α := ctxS o0 M eqs jt0 [] []
theorem ar9 (n : Nat) : GenF (α := α) Tryz.prog Tryz.f66 S7 (aty n) n (oK) := by intro _ _ _ _ _ _; kernel_rfl
theorem UW [Inhabited aX] {α : Type} : ∀ n, fV (α := α) Tryz.prog 66 (dJ S7.sh (gV S7 iW n)) := fJ Tryz.func66 (by kernel_rfl) (by kernel_rfl) (by kernel_rfl) gW (fun n => ar9 n) rfl allN allN
abbrev au1 (F0 : T3 α) (F1 : T4 α) : Nat → Ctx α := ctxS o0 M eqs jt0 [⟨51, S2, F0⟩, ⟨68, S3, F1⟩] []
theorem asI (F0 : T3 α) (F1 : T4 α) (n : Nat) : GenF (α := α) Tryz.prog Tryz.f81 S8 (au1 F0 F1 n) n (QZ F0 F1) := by intro _ _ _ _ _ _; kernel_rfl
theorem aik [Inhabited aX] {α : Type} : ∀ n, fV (α := α) Tryz.prog 81 (dJ S8.sh (gV S8 Bj n)) := fJ Tryz.func81 (by kernel_rfl) (by kernel_rfl) (by kernel_rfl) gW (fun n => asI iy oz n) rfl (allC Gw (allC abT allN)) allN
abbrev au0 (F0 : T4 α) (F1 : T5 α) (F2 : T3 α) (F3 : T9 α) (F4 : T10 α) : Nat → Ctx α := ctxS o0 M eqs jt0 [⟨68, S3, F0⟩, ⟨80, S4, F1⟩, ⟨51, S2, F2⟩, ⟨66, S7, F3⟩, ⟨81, S8, F4⟩] []
theorem as2 (F0 : T4 α) (F1 : T5 α) (F2 : T3 α) (F3 : T9 α) (F4 : T10 α) (n : Nat) : GenF (α := α) Tryz.prog Tryz.f36 S9 (au0 F0 F1 F2 F3 F4 n) n (MQ F0 F1 F2 F3 F4) := by intro _ _ _ _; kernel_rfl
theorem ady [Inhabited aX] {α : Type} : ∀ n, fV (α := α) Tryz.prog 36 (dJ S9.sh (gV S9 qW n)) := fJ Tryz.func36 (by kernel_rfl) (by kernel_rfl) (by kernel_rfl) gW (fun n => as2 oz MV iy iW Bj n) rfl (allC abT (allC aoq (allC Gw (allC UW (allC aik allN))))) allN
abbrev h5_x (F0 : T2 α) (F1 : T11 α) : Nat → Ctx α := ctxS o0 M eqs jt0 [⟨37, S1, F0⟩, ⟨36, S9, F1⟩] []
theorem h5_g (F0 : T2 α) (F1 : T11 α) (n : Nat) : GenF (α := α) Tryz.prog Tryz.f5 S10 (h5_x F0 F1 n) n (OW F0 F1) := by intro _ _; kernel_rfl
theorem ap2 [Inhabited aX] {α : Type} : ∀ n, fV (α := α) Tryz.prog 5 (dJ S10.sh (gV S10 bK n)) := fJ Tryz.func5 (by kernel_rfl) (by kernel_rfl) (by kernel_rfl) gW (fun n => h5_g lJ qW n) rfl (allC TJ (allC ady allN)) allN
abbrev aua : Nat → Ctx α := ctxS o0 M eqs jt0 [] []
theorem asc (n : Nat) : GenF (α := α) Tryz.prog Tryz.f59 S11 (aua n) n (XK) := by intro _ _ _ _; kernel_rfl
theorem afp [Inhabited aX] {α : Type} : ∀ n, fV (α := α) Tryz.prog 59 (dJ S11.sh (gV S11 DX n)) := fJ Tryz.func59 (by kernel_rfl) (by kernel_rfl) (by kernel_rfl) gW (fun n => asc n) rfl allN allN
abbrev atm (F0 : T12 α) : Nat → Ctx α := ctxS o0 M eqs jt0 [⟨59, S11, F0⟩] []
theorem arM (F0 : T12 α) (n : Nat) : GenF (α := α) Tryz.prog Tryz.f87 S12 (atm F0 n) n (Zj F0) := by intro _ _; kernel_rfl
theorem aiu [Inhabited aX] {α : Type} : ∀ n, fV (α := α) Tryz.prog 87 (dJ S12.sh (gV S12 Hy n)) := fJ Tryz.func87 (by kernel_rfl) (by kernel_rfl) (by kernel_rfl) gW (fun n => arM DX n) rfl (allC afp allN) allN
abbrev aut (F0 : T13 α) : Nat → Ctx α := ctxS o0 M eqs jt0 [⟨87, S12, F0⟩] []
theorem ato (F0 : T13 α) (n : Nat) : GenF (α := α) Tryz.prog Tryz.f42 S13 (aut F0 n) n (aab F0) := by intro _ _ _; kernel_rfl
theorem ac9 [Inhabited aX] {α : Type} : ∀ n, fV (α := α) Tryz.prog 42 (dJ S13.sh (gV S13 uQ n)) := fJ Tryz.func42 (by kernel_rfl) (by kernel_rfl) (by kernel_rfl) gW (fun n => ato Hy n) rfl (allC aiu allN) allN
abbrev asx (F0 : T14 α) : Nat → Ctx α := ctxS o0 M eqs jt0 [⟨42, S13, F0⟩] []
theorem ar7 (F0 : T14 α) (n : Nat) : GenF (α := α) Tryz.prog Tryz.f96 S13 (asx F0 n) n (Xy F0) := by intro _ _ _; kernel_rfl
theorem aod [Inhabited aX] {α : Type} : ∀ n, fV (α := α) Tryz.prog 96 (dJ S13.sh (gV S13 QX n)) := fJ Tryz.func96 (by kernel_rfl) (by kernel_rfl) (by kernel_rfl) gW (fun n => ar7 uQ n) rfl (allC ac9 allN) allN
def ajS : Tpl := ⟨(.sl 0 :: (.fn 96 [] :: (anyN 5 (.int .i64 :: (.int .i64 :: (anyN 10 [])))))), [(0, .rows 0 25 .pt)], [], false⟩
def aj1 : PcS := zJ [.int, .int, .rows .pt] [0]
abbrev amV (F0 : T14 α) (G2 : T15 α) : Nat → Ctx α := ctxS o0 M eqs jt0 [⟨96, S13, F0⟩] [lpT 2 ajS aj1 R4 G2]
theorem apL (F0 : T14 α) (G2 : T15 α) (n : Nat) : GenL (α := α) Tryz.prog Tryz.f101 S14 (amV F0 G2 n) 2 ajS aj1 n G2 (fun k => lY F0 (G2 k) k) := by intro _ _ _ _ _; kernel_rfl
theorem aql (F0 : T14 α) (G2 : T15 α) (n : Nat) : GenF (α := α) Tryz.prog Tryz.f101 S14 (amV F0 G2 n) n (lq G2) := by intro _ _; kernel_rfl
theorem amM [Inhabited aX] {α : Type} : ∀ n, fV (α := α) Tryz.prog 101 (dJ S14.sh (gV S14 kJ n)) := fJ Tryz.func101 (by kernel_rfl) (by kernel_rfl) (by kernel_rfl) gW (fun n => aql QX iQ n) rfl (allC aod allN) (allC (mW (by kernel_rfl) (fun n => (iQ.eq_2 ..).symm) (fun n => apL QX iQ n)) allN)
abbrev auc (F0 : T16 α) : Nat → Ctx α := ctxS o0 M eqs jt0 [⟨101, S14, F0⟩] []
theorem as1 (F0 : T16 α) (n : Nat) : GenF (α := α) Tryz.prog Tryz.f82 S15 (auc F0 n) n (lV F0) := by intro _ _; kernel_rfl
theorem anC [Inhabited aX] {α : Type} : ∀ n, fV (α := α) Tryz.prog 82 (dJ S15.sh (gV S15 jq n)) := fJ Tryz.func82 (by kernel_rfl) (by kernel_rfl) (by kernel_rfl) gW (fun n => as1 kJ n) rfl (allC amM allN) allN
abbrev asP (F0 : T17 α) : Nat → Ctx α := ctxS o0 M eqs jt0 [⟨82, S15, F0⟩] []
theorem auG (F0 : T17 α) (n : Nat) : GenF (α := α) Tryz.prog Tryz.f67 S16 (asP F0 n) n (aaV F0) := by intro _ _; kernel_rfl
theorem ai4 [Inhabited aX] {α : Type} : ∀ n, fV (α := α) Tryz.prog 67 (dJ S16.sh (gV S16 Fv n)) := fJ Tryz.func67 (by kernel_rfl) (by kernel_rfl) (by kernel_rfl) gW (fun n => auG jq n) rfl (allC anC allN) allN
abbrev atP : Nat → Ctx α := ctxS o0 M eqs jt0 [] []
theorem atX (n : Nat) : GenF (α := α) Tryz.prog Tryz.f89 S17 (atP n) n (acu) := by intro _ _; kernel_rfl
theorem ajm [Inhabited aX] {α : Type} : ∀ n, fV (α := α) Tryz.prog 89 (dJ S17.sh (gV S17 Jz n)) := fJ Tryz.func89 (by kernel_rfl) (by kernel_rfl) (by kernel_rfl) gW (fun n => atX n) rfl allN allN
def alp : Tpl := ⟨(.int .i64 :: (.int .i64 :: (anyN 11 []))), [], [], false⟩
def amv : PcS := zJ [.int, .int] [0]
abbrev apg (F0 : T18 α) (G1 : T6 α) : Nat → Ctx α := ctxS o0 M eqs jt0 [⟨89, S17, F0⟩] [lpT 1 alp amv R4 G1]
theorem aqF (F0 : T18 α) (G1 : T6 α) (n : Nat) : GenL (α := α) Tryz.prog Tryz.f60 S5 (apg F0 G1 n) 1 alp amv n G1 (fun k => ZW (G1 k) k) := by intro _ _ _ _; kernel_rfl
theorem auH (F0 : T18 α) (G1 : T6 α) (n : Nat) : GenF (α := α) Tryz.prog Tryz.f60 S5 (apg F0 G1 n) n (adu F0 G1) := by intro _ _ _; kernel_rfl
theorem ais [Inhabited aX] {α : Type} : ∀ n, fV (α := α) Tryz.prog 60 (dJ S5.sh (gV S5 Pj n)) := fJ Tryz.func60 (by kernel_rfl) (by kernel_rfl) (by kernel_rfl) gW (fun n => auH Jz GX n) rfl (allC ajm allN) (allC (mW (by kernel_rfl) (fun n => (GX.eq_2 ..).symm) (fun n => aqF Jz GX n)) allN)
abbrev auZ (F0 : T7 α) : Nat → Ctx α := ctxS o0 M eqs jt0 [⟨60, S5, F0⟩] []
theorem auX (F0 : T7 α) (n : Nat) : GenF (α := α) Tryz.prog Tryz.f88 S18 (auZ F0 n) n (IW F0) := by intro _ _ _; kernel_rfl
theorem ani [Inhabited aX] {α : Type} : ∀ n, fV (α := α) Tryz.prog 88 (dJ S18.sh (gV S18 Ew n)) := fJ Tryz.func88 (by kernel_rfl) (by kernel_rfl) (by kernel_rfl) gW (fun n => auX Pj n) rfl (allC ais allN) allN
abbrev atG (F0 : T7 α) : Nat → Ctx α := ctxS o0 M eqs jt0 [⟨88, S18, F0⟩] []
theorem auj (F0 : T7 α) (n : Nat) : GenF (α := α) Tryz.prog Tryz.f43 S13 (atG F0 n) n (yw F0) := by intro _ _ _; kernel_rfl
theorem aje [Inhabited aX] {α : Type} : ∀ n, fV (α := α) Tryz.prog 43 (dJ S13.sh (gV S13 pJ n)) := fJ Tryz.func43 (by kernel_rfl) (by kernel_rfl) (by kernel_rfl) gW (fun n => auj Ew n) rfl (allC ani allN) allN
abbrev h9_x (F0 : T14 α) (F1 : T14 α) : Nat → Ctx α := ctxS o0 M eqs jt0 [⟨42, S13, F0⟩, ⟨43, S13, F1⟩] []
theorem h9_g (F0 : T14 α) (F1 : T14 α) (n : Nat) : GenF (α := α) Tryz.prog Tryz.f9 S13 (h9_x F0 F1 n) n (Vq F0 F1) := by intro _ _ _; kernel_rfl
theorem aj3 [Inhabited aX] {α : Type} : ∀ n, fV (α := α) Tryz.prog 9 (dJ S13.sh (gV S13 dZ n)) := fJ Tryz.func9 (by kernel_rfl) (by kernel_rfl) (by kernel_rfl) gW (fun n => h9_g uQ pJ n) rfl (allC ac9 (allC aje allN)) allN
abbrev aul (F0 : T14 α) : Nat → Ctx α := ctxS o0 M eqs jt0 [⟨9, S13, F0⟩] []
theorem atO (F0 : T14 α) (n : Nat) : GenF (α := α) Tryz.prog Tryz.f83 S13 (aul F0 n) n (IK F0) := by intro _ _ _; kernel_rfl
theorem an8 [Inhabited aX] {α : Type} : ∀ n, fV (α := α) Tryz.prog 83 (dJ S13.sh (gV S13 yV n)) := fJ Tryz.func83 (by kernel_rfl) (by kernel_rfl) (by kernel_rfl) gW (fun n => atO dZ n) rfl (allC aj3 allN) allN
def aii : Tpl := ⟨(.sl 0 :: (.fn 83 [] :: (anyN 5 (.int .i64 :: (.int .i64 :: (anyN 10 [])))))), [(0, .rows 0 25 .pt)], [], false⟩
def air : PcS := zJ [.int, .int, .rows .pt] [0]
abbrev akn (F0 : T14 α) (G2 : T15 α) : Nat → Ctx α := ctxS o0 M eqs jt0 [⟨83, S13, F0⟩] [lpT 2 aii air R4 G2]
theorem aoc (F0 : T14 α) (G2 : T15 α) (n : Nat) : GenL (α := α) Tryz.prog Tryz.f101 S19 (akn F0 G2 n) 2 aii air n G2 (fun k => kW F0 (G2 k) k) := by intro _ _ _ _ _; kernel_rfl
theorem apv (F0 : T14 α) (G2 : T15 α) (n : Nat) : GenF (α := α) Tryz.prog Tryz.f101 S19 (akn F0 G2 n) n (kX G2) := by intro _ _; kernel_rfl
theorem akV [Inhabited aX] {α : Type} : ∀ n, fV (α := α) Tryz.prog 101 (dJ S19.sh (gV S19 jW n)) := fJ Tryz.func101 (by kernel_rfl) (by kernel_rfl) (by kernel_rfl) gW (fun n => apv yV gK n) rfl (allC an8 allN) (allC (mW (by kernel_rfl) (fun n => (gK.eq_2 ..).symm) (fun n => aoc yV gK n)) allN)
abbrev arb (F0 : T16 α) : Nat → Ctx α := ctxS o0 M eqs jt0 [⟨101, S19, F0⟩] []
theorem aqk (F0 : T16 α) (n : Nat) : GenF (α := α) Tryz.prog Tryz.f82 S20 (arb F0 n) n (kZ F0) := by intro _ _; kernel_rfl
theorem alI [Inhabited aX] {α : Type} : ∀ n, fV (α := α) Tryz.prog 82 (dJ S20.sh (gV S20 jQ n)) := fJ Tryz.func82 (by kernel_rfl) (by kernel_rfl) (by kernel_rfl) gW (fun n => aqk jW n) rfl (allC akV allN) allN
abbrev arZ (F0 : T17 α) (F1 : T17 α) : Nat → Ctx α := ctxS o0 M eqs jt0 [⟨67, S16, F0⟩, ⟨82, S20, F1⟩] []
theorem atv (F0 : T17 α) (F1 : T17 α) (n : Nat) : GenF (α := α) Tryz.prog Tryz.f38 S21 (arZ F0 F1 n) n (MZ F0 F1) := by intro _ _; kernel_rfl
theorem ab4 [Inhabited aX] {α : Type} : ∀ n, fV (α := α) Tryz.prog 38 (dJ S21.sh (gV S21 jv n)) := fJ Tryz.func38 (by kernel_rfl) (by kernel_rfl) (by kernel_rfl) gW (fun n => atv Fv jQ n) rfl (allC ai4 (allC alI allN)) allN
abbrev auA : Nat → Ctx α := ctxS o0 M eqs jt0 [] []
theorem asi (n : Nat) : GenF (α := α) Tryz.prog Tryz.f92 S5 (auA n) n (ab2) := by intro _ _ _; kernel_rfl
theorem aiM [Inhabited aX] {α : Type} : ∀ n, fV (α := α) Tryz.prog 92 (dJ S5.sh (gV S5 JX n)) := fJ Tryz.func92 (by kernel_rfl) (by kernel_rfl) (by kernel_rfl) gW (fun n => asi n) rfl allN allN
abbrev aqU (F0 : T7 α) : Nat → Ctx α := ctxS o0 M eqs jt0 [⟨92, S5, F0⟩] []
theorem ark (F0 : T7 α) (n : Nat) : GenF (α := α) Tryz.prog Tryz.f102 S5 (aqU F0 n) n (ado F0) := by intro _ _ _; kernel_rfl
theorem amY [Inhabited aX] {α : Type} : ∀ n, fV (α := α) Tryz.prog 102 (dJ S5.sh (gV S5 Zv n)) := fJ Tryz.func102 (by kernel_rfl) (by kernel_rfl) (by kernel_rfl) gW (fun n => ark JX n) rfl (allC aiM allN) allN
def ama : Tpl := ⟨(.any :: (.int .i64 :: (.any :: (.any :: (.any :: (.int .i64 :: (.int .i64 :: (.int .i64 :: (.int .i64 :: (anyN 25 [])))))))))), [], [], false⟩
def amr : PcS := zJ [.int, .int, .int, .int, .int] [0]
abbrev ao1 (F0 : T7 α) (G2 : T19 α) : Nat → Ctx α := ctxS o0 M eqs jt0 [⟨102, S5, F0⟩] [lpT 2 ama amr R4 G2]
theorem aqn (F0 : T7 α) (G2 : T19 α) (n : Nat) : GenL (α := α) Tryz.prog Tryz.f84 S5 (ao1 F0 G2 n) 2 ama amr n G2 (fun k => Qk (G2 k) k) := by intro _ _ _ _ _ _ _; kernel_rfl
theorem atZ (F0 : T7 α) (G2 : T19 α) (n : Nat) : GenF (α := α) Tryz.prog Tryz.f84 S5 (ao1 F0 G2 n) n (aa4 F0 G2) := by intro _ _ _; kernel_rfl
theorem aow [Inhabited aX] {α : Type} : ∀ n, fV (α := α) Tryz.prog 84 (dJ S5.sh (gV S5 aaE n)) := fJ Tryz.func84 (by kernel_rfl) (by kernel_rfl) (by kernel_rfl) gW (fun n => atZ Zv xK n) rfl (allC amY allN) (allC (mW (by kernel_rfl) (fun n => (xK.eq_2 ..).symm) (fun n => aqn Zv xK n)) allN)
abbrev as9 : Nat → Ctx α := ctxS o0 M eqs jt0 [] []
theorem auh (n : Nat) : GenF (α := α) Tryz.prog Tryz.f47 S7 (as9 n) n (sJ) := by intro _ _ _ _ _ _; kernel_rfl
theorem adg [Inhabited aX] {α : Type} : ∀ n, fV (α := α) Tryz.prog 47 (dJ S7.sh (gV S7 jy n)) := fJ Tryz.func47 (by kernel_rfl) (by kernel_rfl) (by kernel_rfl) gW (fun n => auh n) rfl allN allN
abbrev atn (F0 : T9 α) : Nat → Ctx α := ctxS o0 M eqs jt0 [⟨47, S7, F0⟩] []
theorem aui (F0 : T9 α) (n : Nat) : GenF (α := α) Tryz.prog Tryz.f49 S22 (atn F0 n) n (Ez F0) := by intro _ _ _ _ _; kernel_rfl
theorem afy [Inhabited aX] {α : Type} : ∀ n, fV (α := α) Tryz.prog 49 (dJ S22.sh (gV S22 nX n)) := fJ Tryz.func49 (by kernel_rfl) (by kernel_rfl) (by kernel_rfl) gW (fun n => aui jy n) rfl (allC adg allN) allN
abbrev arN (F0 : T7 α) (F1 : T20 α) : Nat → Ctx α := ctxS o0 M eqs jt0 [⟨84, S5, F0⟩, ⟨49, S22, F1⟩] []
theorem asG (F0 : T7 α) (F1 : T20 α) (n : Nat) : GenF (α := α) Tryz.prog Tryz.f39 S23 (arN F0 F1 n) n (Nk F0 F1) := by intro _ _ _; kernel_rfl
theorem aoi [Inhabited aX] {α : Type} : ∀ n, fV (α := α) Tryz.prog 39 (dJ S23.sh (gV S23 CY n)) := fJ Tryz.func39 (by kernel_rfl) (by kernel_rfl) (by kernel_rfl) gW (fun n => asG aaE nX n) rfl (allC aow (allC afy allN)) allN
abbrev h6_x (F0 : T16 α) (F1 : T21 α) : Nat → Ctx α := ctxS o0 M eqs jt0 [⟨38, S21, F0⟩, ⟨39, S23, F1⟩] []
theorem h6_g (F0 : T16 α) (F1 : T21 α) (n : Nat) : GenF (α := α) Tryz.prog Tryz.f6 S24 (h6_x F0 F1 n) n (WX F0 F1) := by intro _ _ _; kernel_rfl
theorem apS [Inhabited aX] {α : Type} : ∀ n, fV (α := α) Tryz.prog 6 (dJ S24.sh (gV S24 fQ n)) := fJ Tryz.func6 (by kernel_rfl) (by kernel_rfl) (by kernel_rfl) gW (fun n => h6_g jv CY n) rfl (allC ab4 (allC aoi allN)) allN
abbrev arY : Nat → Ctx α := ctxS o0 M eqs jt0 [] []
theorem auf (n : Nat) : GenF (α := α) Tryz.prog Tryz.f65 S11 (arY n) n (NJ) := by intro _ _ _ _; kernel_rfl
theorem aji [Inhabited aX] {α : Type} : ∀ n, fV (α := α) Tryz.prog 65 (dJ S11.sh (gV S11 zk n)) := fJ Tryz.func65 (by kernel_rfl) (by kernel_rfl) (by kernel_rfl) gW (fun n => auf n) rfl allN allN
abbrev as3 (F0 : T12 α) : Nat → Ctx α := ctxS o0 M eqs jt0 [⟨65, S11, F0⟩] []
theorem arU (F0 : T12 α) (n : Nat) : GenF (α := α) Tryz.prog Tryz.f97 S12 (as3 F0 n) n (aau F0) := by intro _ _; kernel_rfl
theorem anR [Inhabited aX] {α : Type} : ∀ n, fV (α := α) Tryz.prog 97 (dJ S12.sh (gV S12 Sz n)) := fJ Tryz.func97 (by kernel_rfl) (by kernel_rfl) (by kernel_rfl) gW (fun n => arU zk n) rfl (allC aji allN) allN
abbrev as6 (F0 : T13 α) : Nat → Ctx α := ctxS o0 M eqs jt0 [⟨97, S12, F0⟩] []
theorem as5 (F0 : T13 α) (n : Nat) : GenF (α := α) Tryz.prog Tryz.f70 S13 (as6 F0 n) n (abL F0) := by intro _ _ _; kernel_rfl
theorem ab1 [Inhabited aX] {α : Type} : ∀ n, fV (α := α) Tryz.prog 70 (dJ S13.sh (gV S13 qQ n)) := fJ Tryz.func70 (by kernel_rfl) (by kernel_rfl) (by kernel_rfl) gW (fun n => as5 Sz n) rfl (allC anR allN) allN
def alg : Tpl := ⟨(.sl 0 :: (.any :: (.any :: (.int .i64 :: (anyN 12 []))))), [(0, .rows 0 25 .pt)], [], false⟩
def al4 : PcS := zJ [.int, .rows .pt] [0]
abbrev aph (F0 : T14 α) (G2 : T23 α) : Nat → Ctx α := ctxS o0 M eqs jt0 [⟨70, S13, F0⟩] [lpT 2 alg al4 R4 G2]
theorem aq7 (F0 : T14 α) (G2 : T23 α) (n : Nat) : GenL (α := α) Tryz.prog Tryz.f85 S21 (aph F0 G2 n) 2 alg al4 n G2 (fun k => Nq F0 (G2 k) k) := by intro _ _ _ _; kernel_rfl
theorem au8 (F0 : T14 α) (G2 : T23 α) (n : Nat) : GenF (α := α) Tryz.prog Tryz.f85 S21 (aph F0 G2 n) n (aar G2) := by intro _ _; kernel_rfl
theorem anU [Inhabited aX] {α : Type} : ∀ n, fV (α := α) Tryz.prog 85 (dJ S21.sh (gV S21 LQ n)) := fJ Tryz.func85 (by kernel_rfl) (by kernel_rfl) (by kernel_rfl) gW (fun n => au8 qQ vW n) rfl (allC ab1 allN) (allC (mW (by kernel_rfl) (fun n => (vW.eq_2 ..).symm) (fun n => aq7 qQ vW n)) allN)
abbrev asK (F0 : T14 α) (F1 : T7 α) : Nat → Ctx α := ctxS o0 M eqs jt0 [⟨70, S13, F0⟩, ⟨75, S5, F1⟩] []
theorem atq (F0 : T14 α) (F1 : T7 α) (n : Nat) : GenF (α := α) Tryz.prog Tryz.f44 S13 (asK F0 F1 n) n (abM F0 F1) := by intro _ _ _; kernel_rfl
theorem ae6 [Inhabited aX] {α : Type} : ∀ n, fV (α := α) Tryz.prog 44 (dJ S13.sh (gV S13 Bz n)) := fJ Tryz.func44 (by kernel_rfl) (by kernel_rfl) (by kernel_rfl) gW (fun n => atq qQ CV n) rfl (allC ab1 (allC ae8 allN)) allN
def amO : Tpl := ⟨(.sl 0 :: (.any :: (.any :: (.any :: (.int .i64 :: (anyN 17 [])))))), [(0, .rows 0 25 .pt)], [], false⟩
def al1 : PcS := zJ [.int, .rows .pt] [0]
abbrev apj (F0 : T16 α) (F1 : T14 α) (G5 : T23 α) : Nat → Ctx α := ctxS o0 M eqs jt0 [⟨85, S21, F0⟩, ⟨44, S13, F1⟩] [lpT 5 amO al1 R4 G5]
theorem aqK (F0 : T16 α) (F1 : T14 α) (G5 : T23 α) (n : Nat) : GenL (α := α) Tryz.prog Tryz.f40 S21 (apj F0 F1 G5 n) 5 amO al1 n G5 (fun k => Ny F1 (G5 k) k) := by intro _ _ _ _; kernel_rfl
theorem asX (F0 : T16 α) (F1 : T14 α) (G5 : T23 α) (n : Nat) : GenF (α := α) Tryz.prog Tryz.f40 S21 (apj F0 F1 G5 n) n (aay F0 G5) := by intro _ _; kernel_rfl
theorem ac8 [Inhabited aX] {α : Type} : ∀ n, fV (α := α) Tryz.prog 40 (dJ S21.sh (gV S21 rq n)) := fJ Tryz.func40 (by kernel_rfl) (by kernel_rfl) (by kernel_rfl) gW (fun n => asX LQ Bz vX n) rfl (allC anU (allC ae6 allN)) (allC (mW (by kernel_rfl) (fun n => (vX.eq_2 ..).symm) (fun n => aqK LQ Bz vX n)) allN)
abbrev aq9 : Nat → Ctx α := ctxS o0 M eqs jt0 [] []
theorem aqf (n : Nat) : GenF (α := α) Tryz.prog Tryz.f103 S5 (aq9 n) n (Zz) := by intro _ _ _; kernel_rfl
theorem amR [Inhabited aX] {α : Type} : ∀ n, fV (α := α) Tryz.prog 103 (dJ S5.sh (gV S5 MW n)) := fJ Tryz.func103 (by kernel_rfl) (by kernel_rfl) (by kernel_rfl) gW (fun n => aqf n) rfl allN allN
def amo : Tpl := ⟨(.any :: (.ptr 64 0 0 :: (.ptr 128 0 0 :: (.int .i64 :: (.int .i64 :: (.int .i64 :: (.int .i64 :: (.int .i64 :: (anyN 50 []))))))))), [(64, .ints 2 25 .i64 2), (128, .ints 2 25 .i64 2)], [], false⟩
def am5 : PcS := zJ [.int, .int, .int, .int, .int, .int, .int, .int, .int] [0]
abbrev aoX (F0 : T7 α) (G5 : T24 α) : Nat → Ctx α := ctxS o0 M eqs jt0 [⟨103, S5, F0⟩] [lpT 5 amo am5 R5 G5]
theorem aqX (F0 : T7 α) (G5 : T24 α) (n : Nat) : GenL (α := α) Tryz.prog Tryz.f86 S6 (aoX F0 G5 n) 5 amo am5 n G5 (fun k => PW (G5 k) k) := by intro _ _ _ _ _ _ _ _ _ _ _; kernel_rfl
theorem asL (F0 : T7 α) (G5 : T24 α) (n : Nat) : GenF (α := α) Tryz.prog Tryz.f86 S6 (aoX F0 G5 n) n (MJ F0 G5) := by intro _ _ _; kernel_rfl
theorem aiw [Inhabited aX] {α : Type} : ∀ n, fV (α := α) Tryz.prog 86 (dJ S6.sh (gV S6 zK n)) := fJ Tryz.func86 (by kernel_rfl) (by kernel_rfl) (by kernel_rfl) gW (fun n => asL MW vJ n) rfl (allC amR allN) (allC (mW (by kernel_rfl) (fun n => (vJ.eq_2 ..).symm) (fun n => aqX MW vJ n)) allN)
abbrev arQ (F0 : T8 α) (F1 : T9 α) : Nat → Ctx α := ctxS o0 M eqs jt0 [⟨86, S6, F0⟩, ⟨66, S7, F1⟩] []
theorem aug (F0 : T8 α) (F1 : T9 α) (n : Nat) : GenF (α := α) Tryz.prog Tryz.f41 S23 (arQ F0 F1 n) n (VY F0 F1) := by intro _ _ _; kernel_rfl
theorem aoz [Inhabited aX] {α : Type} : ∀ n, fV (α := α) Tryz.prog 41 (dJ S23.sh (gV S23 Iy n)) := fJ Tryz.func41 (by kernel_rfl) (by kernel_rfl) (by kernel_rfl) gW (fun n => aug zK iW n) rfl (allC aiw (allC UW allN)) allN
abbrev h7_x (F0 : T16 α) (F1 : T21 α) : Nat → Ctx α := ctxS o0 M eqs jt0 [⟨40, S21, F0⟩, ⟨41, S23, F1⟩] []
theorem h7_g (F0 : T16 α) (F1 : T21 α) (n : Nat) : GenF (α := α) Tryz.prog Tryz.f7 S24 (h7_x F0 F1 n) n (XJ F0 F1) := by intro _ _ _; kernel_rfl
theorem apw [Inhabited aX] {α : Type} : ∀ n, fV (α := α) Tryz.prog 7 (dJ S24.sh (gV S24 fZ n)) := fJ Tryz.func7 (by kernel_rfl) (by kernel_rfl) (by kernel_rfl) gW (fun n => h7_g rq Iy n) rfl (allC ac8 (allC aoz allN)) allN
abbrev h8_x : Nat → Ctx α := ctxS o0 M eqs jt0 [] []
theorem h8_g (n : Nat) : GenF (α := α) Tryz.prog Tryz.f8 S25 (h8_x n) n (YJ) := by intro _; kernel_rfl
theorem apB [Inhabited aX] {α : Type} : ∀ n, fV (α := α) Tryz.prog 8 (dJ S25.sh (gV S25 dQ n)) := fJ Tryz.func8 (by kernel_rfl) (by kernel_rfl) (by kernel_rfl) gW (fun n => h8_g n) rfl allN allN
abbrev asR (F0 : T14 α) : Nat → Ctx α := ctxS o0 M eqs jt0 [⟨44, S13, F0⟩] []
theorem au3 (F0 : T14 α) (n : Nat) : GenF (α := α) Tryz.prog Tryz.f10 S13 (asR F0 n) n (VV F0) := by intro _ _ _; kernel_rfl
theorem ank [Inhabited aX] {α : Type} : ∀ n, fV (α := α) Tryz.prog 10 (dJ S13.sh (gV S13 dK n)) := fJ Tryz.func10 (by kernel_rfl) (by kernel_rfl) (by kernel_rfl) gW (fun n => au3 Bz n) rfl (allC ae6 allN) allN
abbrev aud (F0 : T2 α) (F1 : T11 α) (F2 : T3 α) : Nat → Ctx α := ctxS o0 M eqs jt0 [⟨37, S1, F0⟩, ⟨36, S9, F1⟩, ⟨51, S2, F2⟩] []
theorem atw (F0 : T2 α) (F1 : T11 α) (F2 : T3 α) (n : Nat) : GenF (α := α) Tryz.prog Tryz.f15 S10 (aud F0 F1 F2 n) n (FQ F0 F1 F2) := by intro _ _; kernel_rfl
theorem aol [Inhabited aX] {α : Type} : ∀ n, fV (α := α) Tryz.prog 15 (dJ S10.sh (gV S10 dW n)) := fJ Tryz.func15 (by kernel_rfl) (by kernel_rfl) (by kernel_rfl) gW (fun n => atw lJ qW iy n) rfl (allC TJ (allC ady (allC Gw allN))) allN
def alm : Tpl := ⟨(anyN 5 (.ptr 320 0 0 :: (.int .i64 :: (.int .i64 :: (anyN 36 []))))), [(320, .bld 70 5)], [], false⟩
def amz : PcS := zJ [.int, .int, .str] [0]
abbrev aps (F0 : T16 α) (G7 : T26 α) : Nat → Ctx α := ctxS ob M eqs jt0 [⟨38, S21, F0⟩] [lpT 7 alm amz R8 G7]
theorem arj (F0 : T16 α) (G7 : T26 α) (n : Nat) : GenL (α := α) Tryz.prog Tryz.f16 S26 (aps F0 G7 n) 7 alm amz n G7 (fun k => AZ (G7 k) k) := by intro _ _ _ _ _; kernel_rfl
theorem auR (F0 : T16 α) (G7 : T26 α) (n : Nat) : GenF (α := α) Tryz.prog Tryz.f16 S26 (aps F0 G7 n) n (aaZ F0 G7) := by intro _ _ _; kernel_rfl
theorem aor [Inhabited aX] {α : Type} (hq : ¬ Qt) : ∀ n, fV (α := α) Tryz.prog 16 (dJ S26.sh (gV S26 gY n)) := fJ Tryz.func16 (by kernel_rfl) (by kernel_rfl) (by kernel_rfl) gW (fun n => auR jv qX n) rfl (allC ab4 allN) (allC (mW (by kernel_rfl) (fun n => (qX.eq_2 ..).symm) (fun n => arj jv qX n)) allN) (at1 hq)
def amn : Tpl := ⟨(anyN 5 (.str :: (.int .i64 :: (.int .i64 :: (anyN 38 []))))), [], [], false⟩
def ali : PcS := zJ [.str, .int, .int] [0]
abbrev apf (F0 : T16 α) (G8 : T28 α) : Nat → Ctx α := ctxS o0 M eqs jt0 [⟨40, S21, F0⟩] [lpT 8 amn ali R8 G8]
theorem aq8 (F0 : T16 α) (G8 : T28 α) (n : Nat) : GenL (α := α) Tryz.prog Tryz.f17 S26 (apf F0 G8 n) 8 amn ali n G8 (fun k => Aq (G8 k) k) := by intro _ _ _ _ _; kernel_rfl
theorem atA (F0 : T16 α) (G8 : T28 α) (n : Nat) : GenF (α := α) Tryz.prog Tryz.f17 S26 (apf F0 G8 n) n (aa7 F0 G8) := by intro _ _ _; kernel_rfl
theorem aoh [Inhabited aX] {α : Type} : ∀ n, fV (α := α) Tryz.prog 17 (dJ S26.sh (gV S26 gX n)) := fJ Tryz.func17 (by kernel_rfl) (by kernel_rfl) (by kernel_rfl) gW (fun n => atA rq qj n) rfl (allC ac8 allN) (allC (mW (by kernel_rfl) (fun n => (qj.eq_2 ..).symm) (fun n => aq8 rq qj n)) allN)
theorem aoI [Inhabited aX] {α : Type} (hq : ¬ Qt) : ∀ n, fV (α := α) Tryz.prog 91 (dJ S27.sh (gV S27 ZQ n)) := alj arq (by kernel_rfl) (fun _ _ _ _ => rfl) hq
abbrev auN (F0 : T29 α) : Nat → Ctx α := ctxS o0 M eqs jt0 [⟨91, S27, F0⟩] []
theorem ath (F0 : T29 α) (n : Nat) : GenF (α := α) Tryz.prog Tryz.f55 S28 (auN F0 n) n (aa6 F0) := by intro _ _ _; kernel_rfl
theorem aov [Inhabited aX] {α : Type} (hq : ¬ Qt) : ∀ n, fV (α := α) Tryz.prog 55 (dJ S28.sh (gV S28 Qq n)) := fJ Tryz.func55 (by kernel_rfl) (by kernel_rfl) (by kernel_rfl) gW (fun n => ath ZQ n) rfl (allC (aoI hq) allN) allN
abbrev as4 (F0 : T14 α) : Nat → Ctx α := ctxS o0 M eqs jt0 [⟨42, S13, F0⟩] []
theorem auK (F0 : T14 α) (n : Nat) : GenF (α := α) Tryz.prog Tryz.f50 S29 (as4 F0 n) n (VX F0) := by intro _ _ _; kernel_rfl
theorem ae9 [Inhabited aX] {α : Type} : ∀ n, fV (α := α) Tryz.prog 50 (dJ S29.sh (gV S29 qw n)) := fJ Tryz.func50 (by kernel_rfl) (by kernel_rfl) (by kernel_rfl) gW (fun n => auK uQ n) rfl (allC ac9 allN) allN
def amf : Tpl := ⟨(.str :: (.any :: (.ptr 128 0 0 :: (.any :: (.ptr 256 0 0 :: (.ptr 320 0 0 :: (anyN 8 (.int .i64 :: (.int .i64 :: (anyN 21 [])))))))))), [(128, .ints 2 25 .i64 2), (256, .ints 2 25 .i64 2), (320, .ints 2 25 .i64 2)], [], false⟩
def amX : PcS := zJ [.str, .int, .int, .int, .int, .int, .int, .int, .int] [0]
abbrev api (F0 : T30 α) (F1 : T9 α) (F2 : T31 α) (G5 : T32 α) : Nat → Ctx α := ctxS o0 M eqs jt0 [⟨55, S28, F0⟩, ⟨47, S7, F1⟩, ⟨50, S29, F2⟩] [lpT 5 amf amX R10 G5]
theorem arA (F0 : T30 α) (F1 : T9 α) (F2 : T31 α) (G5 : T32 α) (n : Nat) : GenL (α := α) Tryz.prog Tryz.f18 S30 (api F0 F1 F2 G5 n) 5 amf amX n G5 (fun k => BJ F1 (G5 k) k) := by intro _ _ _ _ _ _ _ _ _ _ _; kernel_rfl
theorem arR (F0 : T30 α) (F1 : T9 α) (F2 : T31 α) (G5 : T32 α) (n : Nat) : GenF (α := α) Tryz.prog Tryz.f18 S30 (api F0 F1 F2 G5 n) n (yZ F0 F1 F2 G5) := by intro _ _; kernel_rfl
theorem aof [Inhabited aX] {α : Type} (hq : ¬ Qt) : ∀ n, fV (α := α) Tryz.prog 18 (dJ S30.sh (gV S30 ax n)) := fJ Tryz.func18 (by kernel_rfl) (by kernel_rfl) (by kernel_rfl) gW (fun n => arR Qq jy qw nY n) rfl (allC (aov hq) (allC adg (allC ae9 allN))) (allC (mW (by kernel_rfl) (fun n => (nY.eq_2 ..).symm) (fun n => arA Qq jy qw nY n)) allN)
abbrev asU (F0 : T13 α) (F1 : T12 α) : Nat → Ctx α := ctxS o0 M eqs jt0 [⟨87, S12, F0⟩, ⟨59, S11, F1⟩] []
theorem atu (F0 : T13 α) (F1 : T12 α) (n : Nat) : GenF (α := α) Tryz.prog Tryz.f56 S31 (asU F0 F1 n) n (aap F0 F1) := by intro _ _ _; kernel_rfl
theorem anA [Inhabited aX] {α : Type} : ∀ n, fV (α := α) Tryz.prog 56 (dJ S31.sh (gV S31 SV n)) := fJ Tryz.func56 (by kernel_rfl) (by kernel_rfl) (by kernel_rfl) gW (fun n => atu Hy DX n) rfl (allC aiu (allC afp allN)) allN
def alH : Tpl := ⟨(.int .i64 :: (.int .i64 :: (.any :: (.any :: (.any :: (.sl 448 :: (anyN 18 []))))))), [(448, .rows 2 2 (.int .i64))], [], false⟩
def amT : PcS := zJ [.int, .int, .rows (.int .i64)] [0]
abbrev aoU (F0 : T7 α) (G2 : T34 α) : Nat → Ctx α := ctxS o0 M eqs jt0 [⟨92, S5, F0⟩] [lpT 2 alH amT R11 G2]
theorem aqx (F0 : T7 α) (G2 : T34 α) (n : Nat) : GenL (α := α) Tryz.prog Tryz.f57 S32 (aoU F0 G2 n) 2 alH amT n G2 (fun k => Qx F0 (G2 k) k) := by intro _ _ _ _ _; kernel_rfl
theorem asC (F0 : T7 α) (G2 : T34 α) (n : Nat) : GenF (α := α) Tryz.prog Tryz.f57 S32 (aoU F0 G2 n) n (aaY G2) := by intro _ _ _; kernel_rfl
theorem aoe [Inhabited aX] {α : Type} : ∀ n, fV (α := α) Tryz.prog 57 (dJ S32.sh (gV S32 WQ n)) := fJ Tryz.func57 (by kernel_rfl) (by kernel_rfl) (by kernel_rfl) gW (fun n => asC JX xW n) rfl (allC aiM allN) (allC (mW (by kernel_rfl) (fun n => (xW.eq_2 ..).symm) (fun n => aqx JX xW n)) allN)
abbrev ati (F0 : T14 α) (F1 : T35 α) : Nat → Ctx α := ctxS o0 M eqs jt0 [⟨56, S31, F0⟩, ⟨57, S32, F1⟩] []
theorem atK (F0 : T14 α) (F1 : T35 α) (n : Nat) : GenF (α := α) Tryz.prog Tryz.f19 S33 (ati F0 F1 n) n (LZ F0 F1) := by intro _ _ _; kernel_rfl
theorem anx [Inhabited aX] {α : Type} : ∀ n, fV (α := α) Tryz.prog 19 (dJ S33.sh (gV S33 bV n)) := fJ Tryz.func19 (by kernel_rfl) (by kernel_rfl) (by kernel_rfl) gW (fun n => atK SV WQ n) rfl (allC anA (allC aoe allN)) allN
abbrev at7 : Nat → Ctx α := ctxS o0 M eqs jt0 [] []
theorem atC (n : Nat) : GenF (α := α) Tryz.prog Tryz.f20 S34 (at7 n) n (adG) := by intro _; kernel_rfl
theorem aos [Inhabited aX] {α : Type} : ∀ n, fV (α := α) Tryz.prog 20 (dJ S34.sh (gV S34 gz n)) := fJ Tryz.func20 (by kernel_rfl) (by kernel_rfl) (by kernel_rfl) gW (fun n => atC n) rfl allN allN
abbrev asf (F0 : T3 α) (F1 : T4 α) : Nat → Ctx α := ctxS o0 M eqs jt0 [⟨51, S2, F0⟩, ⟨68, S3, F1⟩] []
theorem arT (F0 : T3 α) (F1 : T4 α) (n : Nat) : GenF (α := α) Tryz.prog Tryz.f58 S2 (asf F0 F1 n) n (Uk F0 F1) := by intro _ _ _ _ _; kernel_rfl
theorem anz [Inhabited aX] {α : Type} : ∀ n, fV (α := α) Tryz.prog 58 (dJ S2.sh (gV S2 NW n)) := fJ Tryz.func58 (by kernel_rfl) (by kernel_rfl) (by kernel_rfl) gW (fun n => arT iy oz n) rfl (allC Gw (allC abT allN)) allN
abbrev asa (F0 : T2 α) (F1 : T3 α) : Nat → Ctx α := ctxS o0 M eqs jt0 [⟨37, S1, F0⟩, ⟨58, S2, F1⟩] []
theorem auU (F0 : T2 α) (F1 : T3 α) (n : Nat) : GenF (α := α) Tryz.prog Tryz.f21 S35 (asa F0 F1 n) n (Nj F0 F1) := by intro _ _; kernel_rfl
theorem anE [Inhabited aX] {α : Type} : ∀ n, fV (α := α) Tryz.prog 21 (dJ S35.sh (gV S35 bY n)) := fJ Tryz.func21 (by kernel_rfl) (by kernel_rfl) (by kernel_rfl) gW (fun n => auU lJ NW n) rfl (allC TJ (allC anz allN)) allN
abbrev au4 : Nat → Ctx α := ctxS o0 M eqs jt0 [] []
theorem atT (n : Nat) : GenF (α := α) Tryz.prog Tryz.f64 S36 (au4 n) n (abg) := by intro _ _ _ _ _; kernel_rfl
theorem afr [Inhabited aX] {α : Type} : ∀ n, fV (α := α) Tryz.prog 64 (dJ S36.sh (gV S36 KJ n)) := fJ Tryz.func64 (by kernel_rfl) (by kernel_rfl) (by kernel_rfl) gW (fun n => atT n) rfl allN allN
abbrev asQ : Nat → Ctx α := ctxS o0 M eqs jt0 [] []
theorem ar0 (n : Nat) : GenF (α := α) Tryz.prog Tryz.f95 S12 (asQ n) n (VK) := by intro _ _; kernel_rfl
theorem anG [Inhabited aX] {α : Type} : ∀ n, fV (α := α) Tryz.prog 95 (dJ S12.sh (gV S12 Rj n)) := fJ Tryz.func95 (by kernel_rfl) (by kernel_rfl) (by kernel_rfl) gW (fun n => ar0 n) rfl allN allN
abbrev asV (F0 : T13 α) : Nat → Ctx α := ctxS o0 M eqs jt0 [⟨95, S12, F0⟩] []
theorem atd (F0 : T13 α) (n : Nat) : GenF (α := α) Tryz.prog Tryz.f63 S5 (asV F0 n) n (Qv F0) := by intro _ _ _; kernel_rfl
theorem an7 [Inhabited aX] {α : Type} : ∀ n, fV (α := α) Tryz.prog 63 (dJ S5.sh (gV S5 Kv n)) := fJ Tryz.func63 (by kernel_rfl) (by kernel_rfl) (by kernel_rfl) gW (fun n => atd Rj n) rfl (allC anG allN) allN
abbrev auC (F0 : T39 α) (F1 : T7 α) : Nat → Ctx α := ctxS o0 M eqs jt0 [⟨64, S36, F0⟩, ⟨63, S5, F1⟩] []
theorem auF (F0 : T39 α) (F1 : T7 α) (n : Nat) : GenF (α := α) Tryz.prog Tryz.f62 S36 (auC F0 F1 n) n (TQ F0 F1) := by intro _ _ _ _ _; kernel_rfl
theorem anM [Inhabited aX] {α : Type} : ∀ n, fV (α := α) Tryz.prog 62 (dJ S36.sh (gV S36 wX n)) := fJ Tryz.func62 (by kernel_rfl) (by kernel_rfl) (by kernel_rfl) gW (fun n => auF KJ Kv n) rfl (allC afr (allC an7 allN)) allN
def ajN : Go.Shelf.Ren := ⟨fun | 6 => 61 | 15 => 94 | 14 => 93 | 28 => 120 | 29 => 121 | 20 => 112 | 21 => 113 | 22 => 114 | 23 => 115 | 24 => 116 | 25 => 117 | 26 => 118 | 27 => 119 | 46 => 126 | 47 => 127 | 48 => 128 | 49 => 129 | 50 => 130 | 57 => 134 | n => n, fun | 22 => 27 | 24 => 25 | 25 => 85 | 3 => 3 | 39 => 101 | 0 => 0 | 53 => 126 | 55 => 94 | 4 => 4 | 46 => 119 | 45 => 118 | 50 => 123 | 5 => 5 | 9 => 9 | 66 => 132 | 70 => 136 | 76 => 139 | 77 => 140 | n => n, fun | n => n⟩
theorem apu : Go.Proofs.SlLaysF0.n6 Tryz.prog ajN := {
 mixed := by kernel_rfl,
 f6 := ⟨Tryz.f61.name, by decide, Tryz.func61.trans (congrArg some (by kernel_rfl))⟩,
 f14 := ⟨Tryz.f93.name, by decide, Tryz.func93.trans (congrArg some (by kernel_rfl))⟩,
 f15 := Tryz.func94.trans (congrArg some (by kernel_rfl)),
 f20 := ⟨Tryz.f112.name, by decide, Tryz.func112.trans (congrArg some (by kernel_rfl))⟩,
 f21 := ⟨Tryz.f113.name, by decide, Tryz.func113.trans (congrArg some (by kernel_rfl))⟩,
 f22 := ⟨Tryz.f114.name, by decide, Tryz.func114.trans (congrArg some (by kernel_rfl))⟩,
 f23 := ⟨Tryz.f115.name, by decide, Tryz.func115.trans (congrArg some (by kernel_rfl))⟩,
 f24 := ⟨Tryz.f116.name, by decide, Tryz.func116.trans (congrArg some (by kernel_rfl))⟩,
 f25 := ⟨Tryz.f117.name, by decide, Tryz.func117.trans (congrArg some (by kernel_rfl))⟩,
 f26 := ⟨Tryz.f118.name, by decide, Tryz.func118.trans (congrArg some (by kernel_rfl))⟩,
 f27 := ⟨Tryz.f119.name, by decide, Tryz.func119.trans (congrArg some (by kernel_rfl))⟩,
 f28 := Tryz.func120.trans (congrArg some (by kernel_rfl)),
 f29 := Tryz.func121.trans (congrArg some (by kernel_rfl)),
 f46 := ⟨Tryz.f126.name, by decide, Tryz.func126.trans (congrArg some (by kernel_rfl))⟩,
 f47 := Tryz.func127.trans (congrArg some (by kernel_rfl)),
 f48 := Tryz.func128.trans (congrArg some (by kernel_rfl)),
 f49 := ⟨Tryz.f129.name, by decide, Tryz.func129.trans (congrArg some (by kernel_rfl))⟩,
 f50 := ⟨Tryz.f130.name, by decide, Tryz.func130.trans (congrArg some (by kernel_rfl))⟩,
 f57 := ⟨Tryz.f134.name, by decide, Tryz.func134.trans (congrArg some (by kernel_rfl))⟩,
 t0 := Tryz.underlying0,
 a0 := Tryz.isAgg0,
 z0 := Tryz.sizeOf0,
 v0 := Tryz.zeroValue0,
 t3 := Tryz.underlying3,
 a3 := Tryz.isAgg3,
 z3 := Tryz.sizeOf3,
 v3 := Tryz.zeroValue3,
 t4 := Tryz.underlying4,
 a4 := Tryz.isAgg4,
 z4 := Tryz.sizeOf4,
 v4 := Tryz.zeroValue4,
 t5 := Tryz.underlying5,
 a5 := Tryz.isAgg5,
 z5 := Tryz.sizeOf5,
 v5 := Tryz.zeroValue5,
 t9 := Tryz.underlying9,
 a9 := Tryz.isAgg9,
 z9 := Tryz.sizeOf9,
 v9 := Tryz.zeroValue9,
 t22 := Tryz.underlying27,
 a22 := Tryz.isAgg27,
 z22 := Tryz.sizeOf27,
 v22 := Tryz.zeroValue27,
 t25 := Tryz.underlying85,
 a25 := Tryz.isAgg85,
 z25 := Tryz.sizeOf85,
 v25 := Tryz.zeroValue85,
 t39 := Tryz.underlying101,
 a39 := Tryz.isAgg101,
 z39 := Tryz.sizeOf101,
 v39 := Tryz.zeroValue101,
 t45 := Tryz.underlying118,
 a45 := Tryz.isAgg118,
 z45 := Tryz.sizeOf118,
 v45 := Tryz.zeroValue118,
 t46 := Tryz.underlying119,
 a46 := Tryz.isAgg119,
 z46 := Tryz.sizeOf119,
 v46 := Tryz.zeroValue119,
 t50 := Tryz.underlying123,
 a50 := Tryz.isAgg123,
 z50 := Tryz.sizeOf123,
 v50 := Tryz.zeroValue123,
 t53 := Tryz.underlying126,
 a53 := Tryz.isAgg126,
 z53 := Tryz.sizeOf126,
 v53 := Tryz.zeroValue126,
 t55 := Tryz.underlying94,
 a55 := Tryz.isAgg94,
 z55 := Tryz.sizeOf94,
 v55 := Tryz.zeroValue94,
 t66 := Tryz.underlying132,
 a66 := Tryz.isAgg132,
 z66 := Tryz.sizeOf132,
 v66 := Tryz.zeroValue132,
 t70 := Tryz.underlying136,
 a70 := Tryz.isAgg136,
 z70 := Tryz.sizeOf136,
 v70 := Tryz.zeroValue136,
 t76 := Tryz.underlying139,
 a76 := Tryz.isAgg139,
 z76 := Tryz.sizeOf139,
 v76 := Tryz.zeroValue139,
 t77 := Tryz.underlying140,
 a77 := Tryz.isAgg140,
 z77 := Tryz.sizeOf140,
 v77 := Tryz.zeroValue140 }
theorem an3 [iq : Inhabited aX] {α : Type} : ∀ n, fV (α := α) Tryz.prog 61 (dJ S37.sh (gV S37 iJ n)) := aky (t := .pt) apu rfl Tryz.isAgg25 Tryz.sizeOf25 (@anM qT Int) (by intro _ _ _; kernel_rfl) (fun _ _ _ => rfl)
def amJ : Tpl := ⟨(.int .i64 :: (.any :: (.any :: (.any :: (.sl 640 :: (.int .i64 :: (.int .i64 :: (anyN 27 [])))))))), [(640, .rows 2 25 .pt)], [], false⟩
def amG : PcS := zJ [.int, .int, .int, .rows .pt] [2]
def am8 : Tpl := ⟨(.int .i64 :: (.any :: (.any :: (.any :: (.sl 640 :: (.int .i64 :: (anyN 28 []))))))), [(640, .rows 2 25 .pt)], [], false⟩
def alz : PcS := zJ [.int, .int, .rows .pt] [0]
abbrev aks (F0 : T12 α) (F1 : T7 α) (F2 : T40 α) (G8 : T41 α) (G5 : T42 α) : Nat → Ctx α := ctxS o0 M eqs jt0 [⟨59, S11, F0⟩, ⟨60, S5, F1⟩, ⟨61, S37, F2⟩] [lpT 8 amJ amG R7 G8, lpT 5 am8 alz R7 G5]
theorem ap4 (F0 : T12 α) (F1 : T7 α) (F2 : T40 α) (G8 : T41 α) (G5 : T42 α) (n : Nat) : GenL (α := α) Tryz.prog Tryz.f22 S38 (aks F0 F1 F2 G8 G5 n) 8 amJ amG n G8 (fun k => JY F1 (G8 k) k) := by intro _ _ _ _ _ _; kernel_rfl
theorem aqc (F0 : T12 α) (F1 : T7 α) (F2 : T40 α) (G8 : T41 α) (G5 : T42 α) (n : Nat) : GenL (α := α) Tryz.prog Tryz.f22 S38 (aks F0 F1 F2 G8 G5 n) 5 am8 alz n G5 (fun k => JQ G8 (G5 k) k) := by intro _ _ _ _ _; kernel_rfl
theorem asA (F0 : T12 α) (F1 : T7 α) (F2 : T40 α) (G8 : T41 α) (G5 : T42 α) (n : Nat) : GenF (α := α) Tryz.prog Tryz.f22 S38 (aks F0 F1 F2 G8 G5 n) n (IJ F0 F2 G5) := by intro _ _; kernel_rfl
theorem anP [Inhabited aX] {α : Type} : ∀ n, fV (α := α) Tryz.prog 22 (dJ S38.sh (gV S38 dY n)) := fJ Tryz.func22 (by kernel_rfl) (by kernel_rfl) (by kernel_rfl) gW (fun n => asA DX Pj iJ qJ pz n) rfl (allC afp (allC ais (allC an3 allN))) (allC (mW (by kernel_rfl) (fun n => (qJ.eq_2 ..).symm) (fun n => ap4 DX Pj iJ qJ pz n)) (allC (mW (by kernel_rfl) (fun n => (pz.eq_2 ..).symm) (fun n => aqc DX Pj iJ qJ pz n)) allN))
def alf : Tpl := ⟨(.int .i64 :: (.any :: (.any :: (.any :: (.sl 832 :: (.int .i64 :: (anyN 60 []))))))), [(832, .rows 2 25 .pt)], [], false⟩
def amK : PcS := zJ [.int, .int, .rows .pt] [0]
abbrev aoS (F0 : T12 α) (F1 : T9 α) (G5 : T42 α) : Nat → Ctx α := ctxS o0 M eqs jt0 [⟨65, S11, F0⟩, ⟨66, S7, F1⟩] [lpT 5 alf amK R7 G5]
theorem aqE (F0 : T12 α) (F1 : T9 α) (G5 : T42 α) (n : Nat) : GenL (α := α) Tryz.prog Tryz.f23 S38 (aoS F0 F1 G5 n) 5 alf amK n G5 (fun k => JJ F1 (G5 k) k) := by intro _ _ _ _ _; kernel_rfl
theorem auQ (F0 : T12 α) (F1 : T9 α) (G5 : T42 α) (n : Nat) : GenF (α := α) Tryz.prog Tryz.f23 S38 (aoS F0 F1 G5 n) n (Hq F0 G5) := by intro _ _; kernel_rfl
theorem aon [Inhabited aX] {α : Type} : ∀ n, fV (α := α) Tryz.prog 23 (dJ S38.sh (gV S38 dV n)) := fJ Tryz.func23 (by kernel_rfl) (by kernel_rfl) (by kernel_rfl) gW (fun n => auQ zk iW sZ n) rfl (allC aji (allC UW allN)) (allC (mW (by kernel_rfl) (fun n => (sZ.eq_2 ..).symm) (fun n => aqE zk iW sZ n)) allN)
abbrev asZ (F0 : T3 α) : Nat → Ctx α := ctxS o0 M eqs jt0 [⟨51, S2, F0⟩] []
theorem asw (F0 : T3 α) (n : Nat) : GenF (α := α) Tryz.prog Tryz.f69 S39 (asZ F0 n) n (Bq F0) := by intro _ _ _ _ _; kernel_rfl
theorem anj [Inhabited aX] {α : Type} : ∀ n, fV (α := α) Tryz.prog 69 (dJ S39.sh (gV S39 uX n)) := fJ Tryz.func69 (by kernel_rfl) (by kernel_rfl) (by kernel_rfl) gW (fun n => asw iy n) rfl (allC Gw allN) allN
def am0 : Tpl := ⟨(.any :: (.any :: (.any :: (.ptr 512 0 0 :: (.str :: (.int .i64 :: (.int .i64 :: (anyN 30 [])))))))), [(512, .mix 2 96 [.sl 0, .int .i64, .int .u64]), (0, .rows 0 5 (.int .u8))], [], false⟩
def ami : PcS := zJ [.str, .int, .int, .int, .int, .rows (.int .u8)] [0]
abbrev apr (F0 : T2 α) (F1 : T4 α) (F2 : T3 α) (F3 : T44 α) (G4 : T45 α) : Nat → Ctx α := ctxS o0 M eqs jt0 [⟨37, S1, F0⟩, ⟨68, S3, F1⟩, ⟨51, S2, F2⟩, ⟨69, S39, F3⟩] [lpT 4 am0 ami R9 G4]
theorem ap9 (F0 : T2 α) (F1 : T4 α) (F2 : T3 α) (F3 : T44 α) (G4 : T45 α) (n : Nat) : GenL (α := α) Tryz.prog Tryz.f25 S40 (apr F0 F1 F2 F3 G4 n) 4 am0 ami n G4 (fun k => oZ F2 (G4 k) k) := by intro _ _ _ _ _ _ _ _; kernel_rfl
theorem atp (F0 : T2 α) (F1 : T4 α) (F2 : T3 α) (F3 : T44 α) (G4 : T45 α) (n : Nat) : GenF (α := α) Tryz.prog Tryz.f25 S40 (apr F0 F1 F2 F3 G4 n) n (yX F0 F1 F2 F3 G4) := by intro _ _; kernel_rfl
theorem anZ [Inhabited aX] {α : Type} : ∀ n, fV (α := α) Tryz.prog 25 (dJ S40.sh (gV S40 aK n)) := fJ Tryz.func25 (by kernel_rfl) (by kernel_rfl) (by kernel_rfl) gW (fun n => atp lJ oz iy uX jw n) rfl (allC TJ (allC abT (allC Gw (allC anj allN)))) (allC (mW (by kernel_rfl) (fun n => (jw.eq_2 ..).symm) (fun n => ap9 lJ oz iy uX jw n)) allN)
abbrev ass (F0 : T14 α) : Nat → Ctx α := ctxS o0 M eqs jt0 [⟨70, S13, F0⟩] []
theorem atV (F0 : T14 α) (n : Nat) : GenF (α := α) Tryz.prog Tryz.f71 S29 (ass F0 n) n (aaq F0) := by intro _ _ _; kernel_rfl
theorem afl [Inhabited aX] {α : Type} : ∀ n, fV (α := α) Tryz.prog 71 (dJ S29.sh (gV S29 tK n)) := fJ Tryz.func71 (by kernel_rfl) (by kernel_rfl) (by kernel_rfl) gW (fun n => atV qQ n) rfl (allC ab1 allN) allN
def alq : Tpl := ⟨(.str :: (.any :: (.ptr 128 0 0 :: (.any :: (.int .i64 :: (anyN 57 [])))))), [(128, .ints 2 25 .i64 2)], [], false⟩
def alO : PcS := zJ [.str, .int, .int, .int] [0]
def akj : Tpl := ⟨(.str :: (.any :: (.ptr 128 0 0 :: (.any :: (.any :: (.ptr 320 0 0 :: (.ptr 384 0 0 :: (.int .i64 :: (anyN 54 []))))))))), [(128, .ints 2 25 .i64 2), (320, .ints 2 25 .i64 2), (384, .ints 2 25 .i64 2)], [], false⟩
def ajU : PcS := zJ [.str, .int, .int, .int, .int, .int, .int, .int] [2]
abbrev akw (F0 : T9 α) (F1 : T14 α) (F2 : T31 α) (G4 : T47 α) (G10 : T48 α) : Nat → Ctx α := ctxS o0 M eqs jt0 [⟨66, S7, F0⟩, ⟨70, S13, F1⟩, ⟨71, S29, F2⟩] [lpT 4 alq alO R10 G4, lpT 10 akj ajU R10 G10]
theorem arF (F0 : T9 α) (F1 : T14 α) (F2 : T31 α) (G4 : T47 α) (G10 : T48 α) (n : Nat) : GenL (α := α) Tryz.prog Tryz.f26 S30 (akw F0 F1 F2 G4 G10 n) 4 alq alO n G4 (fun k => Az (G4 k) k) := by intro _ _ _ _ _ _; kernel_rfl
theorem ap1 (F0 : T9 α) (F1 : T14 α) (F2 : T31 α) (G4 : T47 α) (G10 : T48 α) (n : Nat) : GenL (α := α) Tryz.prog Tryz.f26 S30 (akw F0 F1 F2 G4 G10 n) 10 akj ajU n G10 (fun k => zY F0 F1 (G10 k) k) := by intro _ _ _ _ _ _ _ _ _ _; kernel_rfl
theorem at6 (F0 : T9 α) (F1 : T14 α) (F2 : T31 α) (G4 : T47 α) (G10 : T48 α) (n : Nat) : GenF (α := α) Tryz.prog Tryz.f26 S30 (akw F0 F1 F2 G4 G10 n) n (yJ F0 F2 G4 G10) := by intro _ _; kernel_rfl
theorem aop [Inhabited aX] {α : Type} : ∀ n, fV (α := α) Tryz.prog 26 (dJ S30.sh (gV S30 ak n)) := fJ Tryz.func26 (by kernel_rfl) (by kernel_rfl) (by kernel_rfl) gW (fun n => at6 iW qQ tK mZ lX n) rfl (allC UW (allC ab1 (allC afl allN))) (allC (mW (by kernel_rfl) (fun n => (mZ.eq_2 ..).symm) (fun n => arF iW qQ tK mZ lX n)) (allC (mW (by kernel_rfl) (fun n => (lX.eq_2 ..).symm) (fun n => ap1 iW qQ tK mZ lX n)) allN))
abbrev asW (F0 : T4 α) : Nat → Ctx α := ctxS o0 M eqs jt0 [⟨68, S3, F0⟩] []
theorem atj (F0 : T4 α) (n : Nat) : GenF (α := α) Tryz.prog Tryz.f74 S41 (asW F0 n) n (aaj F0) := by intro _ _ _ _; kernel_rfl
theorem ah8 [Inhabited aX] {α : Type} : ∀ n, fV (α := α) Tryz.prog 74 (dJ S41.sh (gV S41 Gy n)) := fJ Tryz.func74 (by kernel_rfl) (by kernel_rfl) (by kernel_rfl) gW (fun n => atj oz n) rfl (allC abT allN) allN
abbrev auy (F0 : T49 α) (F1 : T5 α) (F2 : T10 α) : Nat → Ctx α := ctxS o0 M eqs jt0 [⟨74, S41, F0⟩, ⟨98, S4, F1⟩, ⟨81, S8, F2⟩] []
theorem asB (F0 : T49 α) (F1 : T5 α) (F2 : T10 α) (n : Nat) : GenF (α := α) Tryz.prog Tryz.f72 S9 (auy F0 F1 F2 n) n (YV F0 F1 F2) := by intro _ _ _ _; kernel_rfl
theorem aoM [Inhabited aX] {α : Type} : ∀ n, fV (α := α) Tryz.prog 72 (dJ S9.sh (gV S9 Px n)) := fJ Tryz.func72 (by kernel_rfl) (by kernel_rfl) (by kernel_rfl) gW (fun n => asB Gy uy Bj n) rfl (allC ah8 (allC ajn (allC aik allN))) allN
abbrev auO (F0 : T2 α) (F1 : T3 α) (F2 : T11 α) (F3 : T49 α) (F4 : T5 α) : Nat → Ctx α := ctxS o0 M eqs jt0 [⟨37, S1, F0⟩, ⟨51, S2, F1⟩, ⟨72, S9, F2⟩, ⟨74, S41, F3⟩, ⟨73, S4, F4⟩] []
theorem au7 (F0 : T2 α) (F1 : T3 α) (F2 : T11 α) (F3 : T49 α) (F4 : T5 α) (n : Nat) : GenF (α := α) Tryz.prog Tryz.f27 S10 (auO F0 F1 F2 F3 F4 n) n (wV F0 F1 F2 F3 F4) := by intro _ _; kernel_rfl
theorem aoy [Inhabited aX] {α : Type} : ∀ n, fV (α := α) Tryz.prog 27 (dJ S10.sh (gV S10 aV n)) := fJ Tryz.func27 (by kernel_rfl) (by kernel_rfl) (by kernel_rfl) gW (fun n => au7 lJ iy Px Gy oJ n) rfl (allC TJ (allC Gw (allC aoM (allC ah8 (allC ai9 allN))))) allN
abbrev asq (F0 : T20 α) : Nat → Ctx α := ctxS o0 M eqs jt0 [⟨49, S22, F0⟩] []
theorem aun (F0 : T20 α) (n : Nat) : GenF (α := α) Tryz.prog Tryz.f48 S6 (asq F0 n) n (NZ F0) := by intro _ _ _; kernel_rfl
theorem afj [Inhabited aX] {α : Type} : ∀ n, fV (α := α) Tryz.prog 48 (dJ S6.sh (gV S6 oQ n)) := fJ Tryz.func48 (by kernel_rfl) (by kernel_rfl) (by kernel_rfl) gW (fun n => aun nX n) rfl (allC afy allN) allN
abbrev auV (F0 : T14 α) (F1 : T14 α) (F2 : T8 α) : Nat → Ctx α := ctxS o0 M eqs jt0 [⟨42, S13, F0⟩, ⟨43, S13, F1⟩, ⟨48, S6, F2⟩] []
theorem ar1 (F0 : T14 α) (F1 : T14 α) (F2 : T8 α) (n : Nat) : GenF (α := α) Tryz.prog Tryz.f28 S29 (auV F0 F1 F2 n) n (KW F0 F1 F2) := by intro _ _ _; kernel_rfl
theorem anH [Inhabited aX] {α : Type} : ∀ n, fV (α := α) Tryz.prog 28 (dJ S29.sh (gV S29 bW n)) := fJ Tryz.func28 (by kernel_rfl) (by kernel_rfl) (by kernel_rfl) gW (fun n => ar1 uQ pJ oQ n) rfl (allC ac9 (allC aje (allC afj allN))) allN
abbrev auJ (F0 : T14 α) (F1 : T7 α) (F2 : T8 α) : Nat → Ctx α := ctxS o0 M eqs jt0 [⟨70, S13, F0⟩, ⟨75, S5, F1⟩, ⟨76, S6, F2⟩] []
theorem asH (F0 : T14 α) (F1 : T7 α) (F2 : T8 α) (n : Nat) : GenF (α := α) Tryz.prog Tryz.f29 S29 (auJ F0 F1 F2 n) n (Jv F0 F1 F2) := by intro _ _ _; kernel_rfl
theorem aog [Inhabited aX] {α : Type} : ∀ n, fV (α := α) Tryz.prog 29 (dJ S29.sh (gV S29 bJ n)) := fJ Tryz.func29 (by kernel_rfl) (by kernel_rfl) (by kernel_rfl) gW (fun n => asH qQ CV lW n) rfl (allC ab1 (allC ae8 (allC aac allN))) allN
abbrev au6 (F0 : T11 α) (F1 : T14 α) (F2 : T3 α) (F3 : T8 α) (F4 : T9 α) (F5 : T8 α) : Nat → Ctx α := ctxS o0 M eqs jt0 [⟨36, S9, F0⟩, ⟨44, S13, F1⟩, ⟨51, S2, F2⟩, ⟨86, S6, F3⟩, ⟨66, S7, F4⟩, ⟨76, S6, F5⟩] []
theorem arV (F0 : T11 α) (F1 : T14 α) (F2 : T3 α) (F3 : T8 α) (F4 : T9 α) (F5 : T8 α) (n : Nat) : GenF (α := α) Tryz.prog Tryz.f77 S42 (au6 F0 F1 F2 F3 F4 F5 n) n (Iq F0 F1 F2 F3 F4 F5) := by intro _ _ _ _; kernel_rfl
theorem afd [Inhabited aX] {α : Type} : ∀ n, fV (α := α) Tryz.prog 77 (dJ S42.sh (gV S42 uZ n)) := fJ Tryz.func77 (by kernel_rfl) (by kernel_rfl) (by kernel_rfl) gW (fun n => arV qW Bz iy zK iW lW n) rfl (allC ady (allC ae6 (allC Gw (allC aiw (allC UW (allC aac allN)))))) allN
abbrev auB (F0 : T2 α) (F1 : T50 α) (F2 : T3 α) (F3 : T11 α) (F4 : T9 α) (F5 : T8 α) : Nat → Ctx α := ctxS o0 M eqs jt0 [⟨37, S1, F0⟩, ⟨77, S42, F1⟩, ⟨51, S2, F2⟩, ⟨36, S9, F3⟩, ⟨66, S7, F4⟩, ⟨76, S6, F5⟩] []
theorem arP (F0 : T2 α) (F1 : T50 α) (F2 : T3 α) (F3 : T11 α) (F4 : T9 α) (F5 : T8 α) (n : Nat) : GenF (α := α) Tryz.prog Tryz.f30 S43 (auB F0 F1 F2 F3 F4 F5 n) n (mX F0 F1 F2 F3 F4 F5) := by intro _ _; kernel_rfl
theorem aob [Inhabited aX] {α : Type} : ∀ n, fV (α := α) Tryz.prog 30 (dJ S43.sh (gV S43 aW n)) := fJ Tryz.func30 (by kernel_rfl) (by kernel_rfl) (by kernel_rfl) gW (fun n => arP lJ uZ iy qW iW lW n) rfl (allC TJ (allC afd (allC Gw (allC ady (allC UW (allC aac allN)))))) allN
abbrev asg (F0 : T39 α) (F1 : T18 α) : Nat → Ctx α := ctxS o0 M eqs jt0 [⟨64, S36, F0⟩, ⟨89, S17, F1⟩] []
theorem ate (F0 : T39 α) (F1 : T18 α) (n : Nat) : GenF (α := α) Tryz.prog Tryz.f45 S44 (asg F0 F1 n) n (VW F0 F1) := by intro _ _ _ _ _; kernel_rfl
theorem afq [Inhabited aX] {α : Type} : ∀ n, fV (α := α) Tryz.prog 45 (dJ S44.sh (gV S44 tJ n)) := fJ Tryz.func45 (by kernel_rfl) (by kernel_rfl) (by kernel_rfl) gW (fun n => ate KJ Jz n) rfl (allC afr (allC ajm allN)) allN
abbrev atB (F0 : T16 α) (F1 : T9 α) (F2 : T8 α) (F3 : T20 α) (F4 : T52 α) (F5 : T31 α) : Nat → Ctx α := ctxS o0 M eqs jt0 [⟨38, S21, F0⟩, ⟨47, S7, F1⟩, ⟨48, S6, F2⟩, ⟨49, S22, F3⟩, ⟨45, S44, F4⟩, ⟨50, S29, F5⟩] []
theorem arX (F0 : T16 α) (F1 : T9 α) (F2 : T8 α) (F3 : T20 α) (F4 : T52 α) (F5 : T31 α) (n : Nat) : GenF (α := α) Tryz.prog Tryz.f14 S45 (atB F0 F1 F2 F3 F4 F5 n) n (KX F0 F1 F2 F3 F4 F5) := by intro _ _ _ _ _ _ _; kernel_rfl
theorem aou [Inhabited aX] {α : Type} : ∀ n, fV (α := α) Tryz.prog 14 (dJ S45.sh (gV S45 ay n)) := fJ Tryz.func14 (by kernel_rfl) (by kernel_rfl) (by kernel_rfl) gW (fun n => arX jv jy oQ nX tJ qw n) rfl (allC ab4 (allC adg (allC afj (allC afy (allC afq (allC ae9 allN)))))) allN
abbrev aqI : Nat → Ctx α := ctxS o0 M eqs jt0 [] []
theorem arl (n : Nat) : GenF (α := α) Tryz.prog Tryz.f100 S36 (aqI n) n (aa0) := by intro _ _ _ _ _; kernel_rfl
theorem amE [Inhabited aX] {α : Type} : ∀ n, fV (α := α) Tryz.prog 100 (dJ S36.sh (gV S36 Vx n)) := fJ Tryz.func100 (by kernel_rfl) (by kernel_rfl) (by kernel_rfl) gW (fun n => arl n) rfl allN allN
abbrev asz (F0 : T39 α) : Nat → Ctx α := ctxS o0 M eqs jt0 [⟨100, S36, F0⟩] []
theorem aus (F0 : T39 α) (n : Nat) : GenF (α := α) Tryz.prog Tryz.f78 S44 (asz F0 n) n (aak F0) := by intro _ _ _ _ _; kernel_rfl
theorem ai8 [Inhabited aX] {α : Type} : ∀ n, fV (α := α) Tryz.prog 78 (dJ S44.sh (gV S44 Hw n)) := fJ Tryz.func78 (by kernel_rfl) (by kernel_rfl) (by kernel_rfl) gW (fun n => aus Vx n) rfl (allC amE allN) allN
abbrev atJ (F0 : T16 α) (F1 : T9 α) (F2 : T8 α) (F3 : T52 α) (F4 : T31 α) : Nat → Ctx α := ctxS o0 M eqs jt0 [⟨40, S21, F0⟩, ⟨66, S7, F1⟩, ⟨76, S6, F2⟩, ⟨78, S44, F3⟩, ⟨71, S29, F4⟩] []
theorem atI (F0 : T16 α) (F1 : T9 α) (F2 : T8 α) (F3 : T52 α) (F4 : T31 α) (n : Nat) : GenF (α := α) Tryz.prog Tryz.f31 S45 (atJ F0 F1 F2 F3 F4 n) n (KZ F0 F1 F2 F3 F4) := by intro _ _ _ _ _ _ _; kernel_rfl
theorem anK [Inhabited aX] {α : Type} : ∀ n, fV (α := α) Tryz.prog 31 (dJ S45.sh (gV S45 bZ n)) := fJ Tryz.func31 (by kernel_rfl) (by kernel_rfl) (by kernel_rfl) gW (fun n => atI rq iW lW Hw tK n) rfl (allC ac8 (allC UW (allC aac (allC ai8 (allC afl allN))))) allN
abbrev aue (F0 : T2 α) (F1 : T50 α) : Nat → Ctx α := ctxS o0 M eqs jt0 [⟨37, S1, F0⟩, ⟨77, S42, F1⟩] []
theorem auz (F0 : T2 α) (F1 : T50 α) (n : Nat) : GenF (α := α) Tryz.prog Tryz.f32 S46 (aue F0 F1 n) n (EJ F0 F1) := by intro _ _; kernel_rfl
theorem aoj [Inhabited aX] {α : Type} : ∀ n, fV (α := α) Tryz.prog 32 (dJ S46.sh (gV S46 aY n)) := fJ Tryz.func32 (by kernel_rfl) (by kernel_rfl) (by kernel_rfl) gW (fun n => auz lJ uZ n) rfl (allC TJ (allC afd allN)) allN
abbrev atb (F0 : T16 α) (F1 : T52 α) (F2 : T9 α) (F3 : T8 α) (F4 : T31 α) : Nat → Ctx α := ctxS o0 M eqs jt0 [⟨38, S21, F0⟩, ⟨45, S44, F1⟩, ⟨47, S7, F2⟩, ⟨48, S6, F3⟩, ⟨50, S29, F4⟩] []
theorem asl (F0 : T16 α) (F1 : T52 α) (F2 : T9 α) (F3 : T8 α) (F4 : T31 α) (n : Nat) : GenF (α := α) Tryz.prog Tryz.f46 S47 (atb F0 F1 F2 F3 F4 n) n (Yj F0 F1 F2 F3 F4) := by intro _ _ _ _ _ _; kernel_rfl
theorem aiO [Inhabited aX] {α : Type} : ∀ n, fV (α := α) Tryz.prog 46 (dJ S47.sh (gV S47 EX n)) := fJ Tryz.func46 (by kernel_rfl) (by kernel_rfl) (by kernel_rfl) gW (fun n => asl jv tJ jy oQ qw n) rfl (allC ab4 (allC afq (allC adg (allC afj (allC ae9 allN))))) allN
abbrev asO (F0 : T55 α) : Nat → Ctx α := ctxS o0 M eqs jt0 [⟨46, S47, F0⟩] []
theorem atW (F0 : T55 α) (n : Nat) : GenF (α := α) Tryz.prog Tryz.f12 S48 (asO F0 n) n (CZ F0) := by intro _ _ _ _ _; kernel_rfl
theorem aoA [Inhabited aX] {α : Type} : ∀ n, fV (α := α) Tryz.prog 12 (dJ S48.sh (gV S48 az n)) := fJ Tryz.func12 (by kernel_rfl) (by kernel_rfl) (by kernel_rfl) gW (fun n => atW EX n) rfl (allC aiO allN) allN
abbrev aur (F0 : T16 α) (F1 : T52 α) (F2 : T9 α) (F3 : T8 α) (F4 : T31 α) : Nat → Ctx α := ctxS o0 M eqs jt0 [⟨40, S21, F0⟩, ⟨78, S44, F1⟩, ⟨66, S7, F2⟩, ⟨76, S6, F3⟩, ⟨71, S29, F4⟩] []
theorem asE (F0 : T16 α) (F1 : T52 α) (F2 : T9 α) (F3 : T8 α) (F4 : T31 α) (n : Nat) : GenF (α := α) Tryz.prog Tryz.f79 S47 (aur F0 F1 F2 F3 F4 n) n (aax F0 F1 F2 F3 F4) := by intro _ _ _ _ _ _; kernel_rfl
theorem aiA [Inhabited aX] {α : Type} : ∀ n, fV (α := α) Tryz.prog 79 (dJ S47.sh (gV S47 IZ n)) := fJ Tryz.func79 (by kernel_rfl) (by kernel_rfl) (by kernel_rfl) gW (fun n => asE rq Hw iW lW tK n) rfl (allC ac8 (allC ai8 (allC UW (allC aac (allC afl allN))))) allN
abbrev atY (F0 : T55 α) : Nat → Ctx α := ctxS o0 M eqs jt0 [⟨79, S47, F0⟩] []
theorem auY (F0 : T55 α) (n : Nat) : GenF (α := α) Tryz.prog Tryz.f33 S48 (atY F0 n) n (KY F0) := by intro _ _ _ _ _; kernel_rfl
theorem anO [Inhabited aX] {α : Type} : ∀ n, fV (α := α) Tryz.prog 33 (dJ S48.sh (gV S48 bQ n)) := fJ Tryz.func33 (by kernel_rfl) (by kernel_rfl) (by kernel_rfl) gW (fun n => auY IZ n) rfl (allC aiA allN) allN
abbrev atl (F0 : T2 α) (F1 : T50 α) : Nat → Ctx α := ctxS o0 M eqs jt0 [⟨37, S1, F0⟩, ⟨77, S42, F1⟩] []
theorem au5 (F0 : T2 α) (F1 : T50 α) (n : Nat) : GenF (α := α) Tryz.prog Tryz.f34 S46 (atl F0 F1 n) n (wJ F0 F1) := by intro _ _; kernel_rfl
theorem aot [Inhabited aX] {α : Type} : ∀ n, fV (α := α) Tryz.prog 34 (dJ S46.sh (gV S46 aQ n)) := fJ Tryz.func34 (by kernel_rfl) (by kernel_rfl) (by kernel_rfl) gW (fun n => au5 lJ uZ n) rfl (allC TJ (allC afd allN)) allN
abbrev auI (F0 : T55 α) : Nat → Ctx α := ctxS o0 M eqs jt0 [⟨46, S47, F0⟩] []
theorem auS (F0 : T55 α) (n : Nat) : GenF (α := α) Tryz.prog Tryz.f13 S48 (auI F0 n) n (tX F0) := by intro _ _ _ _ _; kernel_rfl
theorem anW [Inhabited aX] {α : Type} : ∀ n, fV (α := α) Tryz.prog 13 (dJ S48.sh (gV S48 aJ n)) := fJ Tryz.func13 (by kernel_rfl) (by kernel_rfl) (by kernel_rfl) gW (fun n => auS EX n) rfl (allC aiO allN) allN
abbrev ar2 (F0 : T55 α) : Nat → Ctx α := ctxS o0 M eqs jt0 [⟨79, S47, F0⟩] []
theorem ast (F0 : T55 α) (n : Nat) : GenF (α := α) Tryz.prog Tryz.f35 S48 (ar2 F0 n) n (Aj F0) := by intro _ _ _ _ _; kernel_rfl
theorem ann [Inhabited aX] {α : Type} : ∀ n, fV (α := α) Tryz.prog 35 (dJ S48.sh (gV S48 aZ n)) := fJ Tryz.func35 (by kernel_rfl) (by kernel_rfl) (by kernel_rfl) gW (fun n => ast IZ n) rfl (allC aiA allN) allN
abbrev auu : Nat → Ctx α := ctxS o0 M eqs jt0 [] []
theorem asu (n : Nat) : GenF (α := α) Tryz.prog Tryz.f8 S49 (auu n) n (aa8) := by intro _ _; kernel_rfl
theorem anS [Inhabited aX] {α : Type} : ∀ n, fV (α := α) Tryz.prog 8 (dJ S49.sh (gV S49 fK n)) := fJ Tryz.func8 (by kernel_rfl) (by kernel_rfl) (by kernel_rfl) gW (fun n => asu n) rfl allN allN
def alW : Tpl := ⟨(.sl 0 :: (.nilsl :: (.any :: (.any :: (.any :: (.int .i64 :: (anyN 20 []))))))), [(0, .rows 0 25 .pt)], [], false⟩
def amC : PcS := zJ [.int, .rows .pt] [0]
abbrev aoT (G4 : T57 α) : Nat → Ctx α := ctxS o0 M eqs jt0 [] [lpT 4 alW amC R0 G4]
theorem arD (G4 : T57 α) (n : Nat) : GenL (α := α) Tryz.prog Tryz.f8 S50 (aoT G4 n) 4 alW amC n G4 (fun k => ZK k) := by intro _ _ _ _; kernel_rfl
theorem arS (G4 : T57 α) (n : Nat) : GenF (α := α) Tryz.prog Tryz.f8 S50 (aoT G4 n) n (abb G4) := by intro _ _; kernel_rfl
theorem an6 [Inhabited aX] {α : Type} : ∀ n, fV (α := α) Tryz.prog 8 (dJ S50.sh (gV S50 gQ n)) := fJ Tryz.func8 (by kernel_rfl) (by kernel_rfl) (by kernel_rfl) gW (fun n => arS JK n) rfl allN (allC (mW (by kernel_rfl) (fun n => (JK.eq_2 ..).symm) (fun n => arD JK n)) allN)
abbrev asM (F0 : T17 α) (F1 : T39 α) : Nat → Ctx α := ctxS o0 M eqs jt0 [⟨67, S16, F0⟩, ⟨64, S36, F1⟩] []
theorem aso (F0 : T17 α) (F1 : T39 α) (n : Nat) : GenF (α := α) Tryz.prog Tryz.f24 S51 (asM F0 F1 n) n (Oq F0 F1) := by intro _ _ _ _ _; kernel_rfl
theorem anY [Inhabited aX] {α : Type} : ∀ n, fV (α := α) Tryz.prog 24 (dJ S51.sh (gV S51 cZ n)) := fJ Tryz.func24 (by kernel_rfl) (by kernel_rfl) (by kernel_rfl) gW (fun n => aso Fv KJ n) rfl (allC ai4 (allC afr allN)) allN
def amh : Tpl := ⟨(.sl 0 :: (.sl 64 :: (.any :: (.any :: (.any :: (.int .i64 :: (anyN 20 []))))))), [(0, .rows 0 25 .pt), (64, .rows 0 25 .pt)], [], false⟩
def alV : PcS := zJ [.int, .rows .pt, .rows .pt] [0]
abbrev apn (G4 : T58 α) : Nat → Ctx α := ctxS o0 M eqs jt0 [] [lpT 4 amh alV R0 G4]
theorem aqP (G4 : T58 α) (n : Nat) : GenL (α := α) Tryz.prog Tryz.f8 S52 (apn G4 n) 4 amh alV n G4 (fun k => Ox (G4 k) k) := by intro _ _ _ _ _; kernel_rfl
theorem auW (G4 : T58 α) (n : Nat) : GenF (α := α) Tryz.prog Tryz.f8 S52 (apn G4 n) n (aaw G4) := by intro _ _ _; kernel_rfl
theorem an0 [Inhabited aX] {α : Type} : ∀ n, fV (α := α) Tryz.prog 8 (dJ S52.sh (gV S52 gJ n)) := fJ Tryz.func8 (by kernel_rfl) (by kernel_rfl) (by kernel_rfl) gW (fun n => auW vZ n) rfl allN (allC (mW (by kernel_rfl) (fun n => (vZ.eq_2 ..).symm) (fun n => aqP vZ n)) allN)
def ajV : Tpl := ⟨(.sl 0 :: (.any :: (.any :: (.int .i64 :: (.int .i64 :: (anyN 13 [])))))), [(0, .rows 0 2 (.int .i64))], [], false⟩
def akc : PcS := zJ [.int, .int, .rows (.int .i64)] [0]
abbrev alr (G3 : T60 α) : Nat → Ctx α := ctxS o0 M eqs jt0 [] [lpT 3 ajV akc R4 G3]
theorem apA (G3 : T60 α) (n : Nat) : GenL (α := α) Tryz.prog Tryz.f20 S53 (alr G3 n) 3 ajV akc n G3 (fun k => Xx (G3 k) k) := by intro _ _ _ _ _; kernel_rfl
theorem aqd (G3 : T60 α) (n : Nat) : GenF (α := α) Tryz.prog Tryz.f20 S53 (alr G3 n) n (acZ G3) := by intro _ _; kernel_rfl
theorem amA [Inhabited aX] {α : Type} : ∀ n, fV (α := α) Tryz.prog 20 (dJ S53.sh (gV S53 iY n)) := fJ Tryz.func20 (by kernel_rfl) (by kernel_rfl) (by kernel_rfl) gW (fun n => aqd GV n) rfl allN (allC (mW (by kernel_rfl) (fun n => (GV.eq_2 ..).symm) (fun n => apA GV n)) allN)
abbrev arW (F0 : T16 α) (F1 : T52 α) : Nat → Ctx α := ctxS o0 M eqs jt0 [⟨38, S21, F0⟩, ⟨45, S44, F1⟩] []
theorem aup (F0 : T16 α) (F1 : T52 α) (n : Nat) : GenF (α := α) Tryz.prog Tryz.f11 S54 (arW F0 F1 n) n (PZ F0 F1) := by intro _ _ _ _ _; kernel_rfl
theorem aoP [Inhabited aX] {α : Type} : ∀ n, fV (α := α) Tryz.prog 11 (dJ S54.sh (gV S54 bz n)) := fJ Tryz.func11 (by kernel_rfl) (by kernel_rfl) (by kernel_rfl) gW (fun n => aup jv tJ n) rfl (allC ab4 (allC afq allN)) allN
end Go.Proofs.YthihpeofphdfmaaGreatDoor
