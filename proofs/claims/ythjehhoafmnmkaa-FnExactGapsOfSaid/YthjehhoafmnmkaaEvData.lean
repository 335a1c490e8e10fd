/- What data say of values in a world; what a function's contract is. -/
import Derived.Test.YthjehhoafmnmkaaEvClear
namespace Go.Ev
open Go.RowKit
def yJ (w : World) (b o : Nat) (l : List AV) : Prop := ∀ (i : Nat) (av : AV), l[i]? = some av → ∃ v, scal av = some v ∧ w.cell? ⟨b, o + i, none⟩ = some v
mutual
def DIn (w : World) (bad : Nat → Prop) : D → Value → Prop
 | .int k n, v => v = .int k n
 | .bool b, v => v = .bool b
 | .str s, v => v = .string s
 | .nilsl, v => v = .slice none 0 0
 | .nilptr, v => v = .pointer none
 | .agg ds, v => ∃ arr : Array Value, v = .agg arr ∧ DAll w bad ds arr.toList
 | .sl _ t l, v => ∃ ad cap, v = .slice ad l.length cap ∧ l.length ≤ cap ∧ (l = [] ∨ ∃ b o, ad = some ⟨b, o, none⟩ ∧ ¬ bad b ∧ yJ w b o (l.flatMap t.enc))
 | .slm _ ds, v => ∃ ad cap, v = .slice ad ds.length cap ∧ ds.length ≤ cap ∧ (ds = [] ∨ ∃ b o, ad = some ⟨b, o, none⟩ ∧ ¬ bad b ∧ AZ w bad b o ds)
 | .ptr _ ds, v => ∃ b o, v = .pointer (some ⟨b, o, none⟩) ∧ (ds = [] ∨ ¬ bad b ∧ AZ w bad b o ds)
 | .fn f ds, v => ∃ arr : Array Value, v = .func (.func f) #[] arr ∧ DAll w bad ds arr.toList
 | _, _ => False
def DAll (w : World) (bad : Nat → Prop) : List D → List Value → Prop
 | [], [] => True
 | d :: ds, v :: vs => DIn w bad d v ∧ DAll w bad ds vs
 | _, _ => False
def AZ (w : World) (bad : Nat → Prop) (b o : Nat) : List D → Prop
 | [] => True
 | d :: ds => (∃ v, w.cell? ⟨b, o, none⟩ = some v ∧ v.oneCell' = true ∧ DIn w bad d v) ∧ AZ w bad b (o + 1) ds
end
def iJ (w : World) (bad : Nat → Prop) : List D → List Value → List Nat → Prop
 | [], [], [] => True
 | .msl e t l :: ds, v :: vs, μ =>
   (∃ g μ', μ = g :: μ' ∧ (∃ cap cur, v = .slice (some ⟨g, 0, none⟩) l.length cap ∧ w.heap[g]? = some (.cells cur e (0, 0)) ∧ l.length ≤ cap ∧ cap ≤ maxLen ∧ cur.size = cap * t.w ∧ yJ w g 0 (l.flatMap t.enc)) ∧ iJ w bad ds vs μ') ∨
   (l = [] ∧ (∃ ad, v = .slice ad 0 0) ∧ iJ w bad ds vs μ)
 | .mptr e l :: ds, v :: vs, μ => ∃ g μ', μ = g :: μ' ∧ (∃ cur, v = .pointer (some ⟨g, 0, none⟩) ∧ w.heap[g]? = some (.cells cur e (0, 0)) ∧ l.length ≤ cur.size ∧ AZ w bad g 0 l) ∧ iJ w bad ds vs μ'
 | d :: ds, v :: vs, μ => DIn w bad d v ∧ iJ w bad ds vs μ
 | _, _, _ => False
def DZ : D → Option Value
 | .int k n => some (.int k n)
 | .bool b => some (.bool b)
 | .str s => some (.string s)
 | .nilsl => some (.slice none 0 0)
 | .nilptr => some (.pointer none)
 | _ => none
def Kept (w w' : World) (g : Nat) : Prop := ∀ cur e, w.heap[g]? = some (.cells cur e (0, 0)) → ∃ cur', w'.heap[g]? = some (.cells cur' e (0, 0)) ∧ cur'.size = cur.size
def sV (w w' : World) (g o : Nat) : List D → Prop
 | [] => True
 | d :: ds => ((d = .keep ∧ w'.cell? ⟨g, o, none⟩ = w.cell? ⟨g, o, none⟩) ∨ ∃ u, DZ d = some u ∧ w'.cell? ⟨g, o, none⟩ = some u) ∧ sV w w' g (o + 1) ds
def jJ (w w' : World) : List D → List Value → List D → Prop
 | [], [], [] => True
 | .msl e t l :: ds, v :: vs, o :: os => (o = .nilsl ∨ ∃ l', o = .sl e t l' ∧ l'.length = l.length ∧ ∀ g cap, v = .slice (some ⟨g, 0, none⟩) l.length cap → l ≠ [] → yJ w' g 0 (l'.flatMap t.enc)) ∧ jJ w w' ds vs os
 | .mptr e l :: ds, v :: vs, o :: os => (∃ l', o = .ptr e l' ∧ l'.length = l.length ∧ ∀ g, v = .pointer (some ⟨g, 0, none⟩) → sV w w' g 0 l') ∧ jJ w w' ds vs os
 | .msl _ _ _ :: _, _ :: _, [] => False
 | .mptr _ _ :: _, _ :: _, [] => False
 | _ :: ds, _ :: vs, os => jJ w w' ds vs os
 | _, _, _ => False
def qJ : List D → List Value → List D → List Nat
 | .msl _ _ _ :: ds, v :: vs, o :: os => match o, v with
   | .nilsl, .slice (some a) _ (_ + 1) => a.block :: qJ ds vs os
   | _, _ => qJ ds vs os
 | .mptr _ _ :: ds, _ :: vs, _ :: os => qJ ds vs os
 | _ :: ds, _ :: vs, os => qJ ds vs os
 | _, _, _ => []
def Iz (w' : World) (args : List Value) (d : D) (v : Value) (ν : List Nat) : Prop :=
 match d with
 | .same i => ν = [] ∧ args[i]? = some v
 | .sl e t l => (∃ g cap cur, ν = [g] ∧ v = .slice (some ⟨g, 0, none⟩) l.length cap ∧ w'.heap[g]? = some (.cells cur e (0, 0)) ∧ l.length ≤ cap ∧ cap ≤ maxLen ∧ cur.size = cap * t.w ∧ yJ w' g 0 (l.flatMap t.enc)) ∨
    (l = [] ∧ ν = [] ∧ ∃ ad, v = .slice ad 0 0)
 | d => ν = [] ∧ DZ d = some v
def zQ (w' : World) (args : List Value) : List D → List Value → List Nat → Prop
 | [], [], ν => ν = []
 | d :: ds, v :: vs, ν => ∃ ν1 ν2, ν = ν1 ++ ν2 ∧ Iz w' args d v ν1 ∧ zQ w' args ds vs ν2
 | _, _, _ => False
def DOut (w' : World) (args : List Value) (d : D) (v : Value) (ν : List Nat) : Prop :=
 match d with
 | .agg ds => ∃ arr : Array Value, v = .agg arr ∧ zQ w' args ds arr.toList ν
 | .ptr e ds => ∃ g ν' cur, ν = ν' ++ [g] ∧ v = .pointer (some ⟨g, 0, none⟩) ∧ w'.heap[g]? = some (.cells cur e (0, 0)) ∧ ds.length ≤ cur.size ∧ zQ w' args ds (cur.toList.take ds.length) ν'
 | d => Iz w' args d v ν
def LW (w' : World) (args : List Value) : List D → List Value → List Nat → Prop
 | [], [], ν => ν = []
 | d :: ds, v :: vs, ν => ∃ ν1 ν2, ν = ν1 ++ ν2 ∧ DOut w' args d v ν1 ∧ LW w' args ds vs ν2
 | _, _, _ => False
def tupV : List Value → Value
 | [v] => v
 | vs => .tuple vs.toArray
section
variable [Inhabited az]
structure adK (w w' : World) (μ : List Nat) (ds : List D) (vs : List Value) (res : Res) (v : Value) : Prop where
 frame : Step w w' (· ∈ μ)
 kept : ∀ g ∈ μ, Kept w w' g
 outs : jJ w w' ds vs res.outs
 rs : ∃ vals ν, v = tupV vals ∧ LW w' vs res.rs vals ν ∧ ν.Nodup ∧ ∀ g ∈ ν, w.heap.size ≤ g ∨ g ∈ qJ ds vs res.outs
def Runs {α : Type} (P : Program) (f : FuncId) (ds : List D) (κ : Res → Option α) (r : α) : Prop :=
 ∀ (w : World) (vs : Array Value) (μ : List Nat), iJ w (· ∈ μ) ds vs.toList μ → μ.Nodup → Calls P f vs w fun e w' => ∃ v res, e = .returned v ∧ κ res = some r ∧ adK w w' μ ds vs.toList res v
structure iw {α : Type} (P : Program) (f : FuncId) (S : List D → (Res → Option α) → Option α) : Prop where
 enters : ∀ (args : Array Value) (w : World), (callFunc f args).run P w = .ok (.enter f args) w
 runs : ∀ ds κ r, S ds κ = some r → Runs P f ds κ r
end
end Go.Ev
