/- Strings: strings.Trim at an ASCII cutset, the methods of strings.Builder, out of the kit's shelf. -/
import Derived.Test.YthihpeofphdfmaaGreatDoorEvSig
import Derived.Shelf.Strings.SlTrimAscii
import Derived.Shelf.Strings.BuilderK
namespace Go.Ev
open Go.RowKit Go.Proofs Go.Shelf
variable {α : Type} {P : Program}
def aiP (s : ByteArray) : Bool := s.data.toList.all fun b => decide (b.toNat < 128)
def afS (s t : ByteArray) (r : ByteArray → Option α) : Option α := bif aiP t && decide (t.size < 4294967281) && decide (s.size ≤ 9223372036854775807) then r ⟨(Lib.trimS s.data.toList t.data.toList).toArray⟩ else none
theorem ent {g : FuncId} {f : Func} {c : Code} (h : P.funcs[g]? = some f) (hb : f.body = some c) (hn : (f.name == "runtime.NumGoroutine") = false) (args : Array Value) (w : World) : (callFunc g args).run P w = .ok (.enter g args) w := by
 have hn : ¬ f.name = "runtime.NumGoroutine" := by simpa using hn
 simp [callFunc, h, hn, hb]
variable [Inhabited aX]
theorem ahQ (hq : ¬ Qt) {w w' : World} {S : Nat → Prop} (h : Below w.heap.size w w') : Step w w' S := ⟨h.os, h.tape, h.output, h.size, fun k hk _ => h.block k hk, fun q => absurd q hq⟩
theorem aly {ρ : Ren} (hq : ¬ Qt) (L : Lays.n160 P ρ) (h116 : (P.info? (ρ.t 116)).map (fun i => (i.zero, i.size)) = some (some (.agg (Array.replicate 256 (.bool false))), 256)) {s t : ByteArray} {κ : Res → Option α} {r : α} (h : afS s t (fun u => κ ⟨[.str u], []⟩) = some r) : Runs P (ρ.f 160) [.str s, .str t] κ r := by
 unfold afS at h
 cases hc : (aiP t && decide (t.size < 4294967281) && decide (s.size ≤ 9223372036854775807)) with
 | false => rw [hc] at h; cases h
 | true =>
   rw [hc] at h
   simp only [Bool.and_eq_true, decide_eq_true_eq] at hc
   intro w vs μ hin hnd
   rcases hvs : vs.toList with _ | ⟨v, _ | ⟨u, _ | ⟨_, _⟩⟩⟩
   ·rw [hvs] at hin; simp [jK] at hin
   ·rw [hvs] at hin; obtain ⟨_, h⟩ := hin; simp [jK] at h
   ·rw [hvs] at hin
    obtain ⟨h1, h2, h3⟩ := hin
    have hμ : μ = [] := by cases μ with | nil => rfl | cons _ _ => simp [jK] at h3
    subst hμ
    have e1 : v = .string s := h1
    have e2 : u = .string t := h2
    have hv2 : vs = #[.string s, .string t] := by rw [← Array.toArray_toList (xs := vs), hvs, e1, e2]
    subst hv2
    refine (Any.strings_Trim_laid L h116 s t w hc.2 hc.1.2 (ascii_of_all hc.1.1)).mono fun e' w' ⟨he, hw⟩ => ⟨_, _, he, h, ?_⟩
    exact ⟨ahQ hq hw, fun g hg => by simp at hg, trivial, [.string _], [], rfl, ⟨[], [], rfl, ⟨rfl, rfl⟩, rfl⟩, List.nodup_nil, by simp⟩
   ·rw [hvs] at hin; obtain ⟨_, _, h⟩ := hin; simp [jK] at h
theorem alj {ρ : Ren} (L : Lays.n160 P ρ) (h116 : (P.info? (ρ.t 116)).map (fun i => (i.zero, i.size)) = some (some (.agg (Array.replicate 256 (.bool false))), 256))
 {B : Nat → ByteArray → ByteArray → (ByteArray → Option α) → Option α} (hB : ∀ n s t r, B n s t r = afS s t r) (hq : ¬ Qt) :
 ∀ n, fV P (ρ.f 160) (dJ [.str, .str] (gV ⟨[.str, .str], [.str, .str], [⟨[.str], [.str], []⟩]⟩ B n)) := fun n =>
 ⟨ent L.f160 rfl rfl, fun ds κ r h => by
   unfold dJ at h
   rw [Option.bind_eq_some_iff] at h
   obtain ⟨p, hp, hc⟩ := h
   have hb := zZ _ _ _ [] hp
   rw [List.append_nil] at hb
   unfold gV at hc
   rw [Option.bind_eq_some_iff] at hc
   obtain ⟨f, hf, hc⟩ := hc
   match p, hf with
   | [q1, q2], hf =>
     simp only [appP, Option.bind_eq_some_iff] at hf
     obtain ⟨s, hs, t, ht, hf⟩ := hf
     have hq1 := LT.get_p1 hs
     have hq2 := LT.get_p1 ht
     subst hq1
     subst hq2
     have := Option.some.inj hf
     subst this
     have hds : ds = [.str s, .str t] := by
      exact (Prod.mk.inj (Option.some.inj hb)).1.symm
     subst hds
     have hc2 : B n s t (fun u => κ ⟨[.str u], []⟩) = some r := by
      rw [← hc]
      rfl
     rw [hB] at hc2
     exact aly hq L h116 hc2
   | [], hf => simp [appP] at hf
   | [_], hf => simp [appP] at hf
   | _ :: _ :: _ :: _, hf => simp [appP] at hf⟩
theorem amc {ρ : Ren} (hq : ¬ Qt) (L : Lays.n166 P ρ) (X : Builder.Extra P ρ) : adm P (ρ.f 166) 1 (ρ.t 72) (ρ.t 5) :=
 ⟨hq, X.neB5, ent L.f166 rfl rfl, fun _ N b bs s w h1 h2 h3 => (Any.Builder_WriteString_k L X N b bs s w h1 h2 h3).mono fun _ _ ⟨h, a, b, c⟩ => ⟨h, .inr a, b, c⟩, fun h => absurd h (by decide), fun h => absurd h (by decide)⟩
theorem akz {ρ : Ren} (hq : ¬ Qt) (L : Lays.n169 P ρ) (X : Builder.Extra P ρ) : adm P (ρ.f 169) 2 (ρ.t 72) (ρ.t 5) :=
 ⟨hq, X.neB5, ent L.f169 rfl rfl, fun h => absurd h (by decide), fun _ N b l w h1 h2 => Any.Builder_String_any_k L X N b l w h1 h2, fun h => absurd h (by decide)⟩
theorem apK {ρ : Ren} (hq : ¬ Qt) (L : Lays.n170 P ρ) (hne : ρ.t 72 ≠ ρ.t 5) : adm P (ρ.f 170) 3 (ρ.t 72) (ρ.t 5) :=
 ⟨hq, hne, ent L.f170 rfl rfl, fun h => absurd h (by decide), fun h => absurd h (by decide), fun _ N b bs w h => Any.Builder_Len_f L N b bs w h⟩
def acC : List (FuncId × Nat) → FuncId → Nat
 | [], _ => 0
 | p :: l, g => bif Nat.beq g p.1 then p.2 else acC l g
theorem aj0 {T eb : TypeId} : ∀ {l : List (FuncId × Nat)}, (∀ p ∈ l, adm P p.1 p.2 T eb) → aca P ⟨false, acC l, T, eb⟩
 | [], _, _, h => absurd rfl h
 | p :: l, hp, g, h => by
   show adm P g (acC (p :: l) g) T eb
   replace h : acC (p :: l) g ≠ 0 := h
   unfold acC at h ⊢
   cases e : Nat.beq g p.1 with
   | true =>
     rw [Nat.eq_of_beq_eq_true e]
     exact hp p (List.mem_cons_self ..)
   | false =>
     rw [e] at h
     exact aj0 (l := l) (fun q hq => hp q (List.mem_cons_of_mem _ hq)) g h
end Go.Ev
