/- From a law's contract to what its row says. -/
import Derived.Test.YtfefgadhaafeiaaEvTab
import Derived.ProofKit
namespace Go.Ev
open Go.RowKit Go.ChangeShapes Go.WideShapes Go.ChangeAt

variable {P : Program}

theorem trodAll_stays {H : Type} {enc : TypeId × Value → H} (hl : laidOutB P = true) {W W' : World} (hb : Below W.heap.size W W') : ∀ {ts : List TypeId} {vs : List Value} {ds : List (DataW H)} {ps : List MemPlace}, (∀ t ∈ ts, P.readableRec t = true ∧ t < P.types.size) →
    DataW.TrodAll enc P W 0 (fun _ => true) true ts vs ds ps → (∀ x ∈ ps, x.block < W.heap.size) → DataW.TrodAll enc P W' 0 (fun b => decide (b < W.heap.size)) true ts vs ds ps
  | [], [], [], ps, _, h, _ => h
  | t :: ts, v :: vs, d :: ds, ps, ht, h, hlt => by
    simp only [DataW.TrodAll] at h ⊢
    obtain ⟨p, q, h1, h2, rfl⟩ := h
    exact ⟨p, q, Below.trod hl (ht t (by simp)).1 (ht t (by simp)).2 h1 hb (fun x hx => hlt x (by simp [hx])), trodAll_stays hl hb (fun t h => ht t (by simp [h])) h2 (fun x hx => hlt x (by simp [hx])), rfl⟩
  | [], _ :: _, _, _, _, h, _ => by simp [DataW.TrodAll] at h
  | [], [], _ :: _, _, _, h, _ => by simp [DataW.TrodAll] at h
  | _ :: _, [], _, _, _, h, _ => by simp [DataW.TrodAll] at h
  | _ :: _, _ :: _, [], _, _, h, _ => by simp [DataW.TrodAll] at h

/-- A law, called: it returns true, and nothing that was there has turned. -/
theorem law_calls {f : FuncId} {S : Nat → List D → (Res → Option Res) → Option Res} (hgood : ∀ n, GoodFn P f (S n)) {W : World} {ds : List D} {vs : Array Value} (hin : ArgsIn W (· ∈ ([] : List Nat)) ds vs.toList []) (hk : ∃ k, S k ds some = some ⟨[.bool true], []⟩) :
    Calls P f vs W fun e W' => e = .returned (.bool true) ∧ Below W.heap.size W W' := by
  obtain ⟨k, hk⟩ := hk
  refine ((hgood k).runs ds some _ hk W vs [] hin List.nodup_nil).mono fun e W' ⟨v, res, he, hres, hpost⟩ => ?_
  have := Option.some.inj hres
  subst this
  obtain ⟨vals, ν, hv, hd, _, _⟩ := hpost.rs
  match vals, hd with
  | [u], hd =>
    simp only [DOuts] at hd
    obtain ⟨ν1, ν2, _, h1, _⟩ := hd
    simp only [DOut, DOutC, scalD] at h1
    have hu := Option.some.inj h1.2
    subst hu
    refine ⟨by rw [he, hv]; rfl, hpost.frame.os, hpost.frame.tape, hpost.frame.output, hpost.frame.size, fun i hi => hpost.frame.block i hi (by simp)⟩
  | [], hd => simp [DOuts] at hd
  | _ :: _ :: _, hd => simp [DOuts] at hd

/-- The kinds of a law's arguments. -/
inductive ArgK where
  | int
  | agg (n : Nat)

def InI64 (n : Int) : Prop := -9223372036854775808 ≤ n ∧ n ≤ 9223372036854775807

def FitD : ArgK → D → Prop
  | .int, d => ∃ n, d = .int .i64 n ∧ InI64 n
  | .agg n, d => ∃ l : List Int, l.length = n ∧ d = .agg (l.map (D.int .i64)) ∧ ∀ x ∈ l, InI64 x

def FitDs : List ArgK → List D → Prop
  | [], [] => True
  | k :: ks, d :: ds => FitD k d ∧ FitDs ks ds
  | _, _ => False

theorem fits_cons {k : ArgK} {ks : List ArgK} {ds : List D} (h : FitDs (k :: ks) ds) : ∃ d r, ds = d :: r ∧ FitD k d ∧ FitDs ks r := by
  cases ds with
  | nil => exact h.elim
  | cons d r => exact ⟨d, r, rfl, h⟩
theorem fits_nil {ds : List D} (h : FitDs [] ds) : ds = [] := by
  cases ds with
  | nil => rfl
  | cons d r => exact h.elim
theorem len_succ {β : Type} {l : List β} {n : Nat} (h : l.length = n + 1) : ∃ a r, l = a :: r ∧ r.length = n := by
  cases l with
  | nil => simp at h
  | cons a r => exact ⟨a, r, rfl, by simpa using h⟩
theorem len_zero {β : Type} {l : List β} (h : l.length = 0) : l = [] := List.eq_nil_of_length_eq_zero h

def isI64 (P : Program) (t : TypeId) : Bool := match P.underlying t with
  | some (.int .i64) => true
  | _ => false

def isAggT (P : Program) (t : TypeId) : Bool := match P.underlying t with
  | some (.struct _) => true
  | some (.array _ _) => true
  | _ => false

def argOK (P : Program) : ArgK → TypeId → Bool
  | .int, t => isI64 P t
  | .agg n, t => isAggT P t && (match P.cellTypes P.depth t with
    | some ts => Nat.beq ts.length n && ts.all (isI64 P)
    | none => false) && Nat.beq (P.cellsOf t) n

def argsOK (P : Program) : List ArgK → List TypeId → Bool
  | [], [] => true
  | k :: ks, t :: ts => argOK P k t && argsOK P ks ts
  | _, _ => false

theorem isI64_under {t : TypeId} (h : isI64 P t = true) : P.underlying t = some (.int .i64) := by
  unfold isI64 at h
  split at h
  · assumption
  · cases h

theorem cell_i64 {W : World} {r : Reach} {base : Nat} {t : TypeId} {v : Value} (ht : P.underlying t = some (.int .i64)) (h : Cell.okWide P W r base t v) : ∃ n, v = .int .i64 n ∧ InI64 n := by
  unfold Cell.okWide at h
  rw [ht] at h
  cases v <;> simp [Cell.ok, ht] at h
  rename_i k n
  obtain ⟨rfl, h⟩ := h
  refine ⟨n, rfl, ?_⟩
  exact h

theorem openArg {W : World} {r : Reach} {base : Nat} {bad : Nat → Prop} {k : ArgK} {t : TypeId} (hk : argOK P k t = true) {v : Value} (hv : Value.okWide P W r base t v) : ∃ d, FitD k d ∧ DIn W bad d v ∧ ∀ ds vs μ, ArgsIn W bad ds vs μ → ArgsIn W bad (d :: ds) (v :: vs) μ := by
  cases k with
  | int =>
    have ht := isI64_under hk
    unfold Value.okWide at hv
    rw [ht] at hv
    obtain ⟨n, rfl, hn⟩ := cell_i64 ht hv
    exact ⟨.int .i64 n, ⟨n, rfl, hn⟩, by simp [DIn], fun ds vs μ h => ArgsIn_cons (by simp [DIn]) h⟩
  | agg n =>
    simp only [argOK, Bool.and_eq_true] at hk
    obtain ⟨⟨h1, h2⟩, h3⟩ := hk
    have h3 := beq_t h3
    have hv' : ∃ cs, v = .agg cs ∧ cs.size = P.cellsOf t ∧ Row.okWide P W r base t cs := by
      unfold Value.okWide at hv
      unfold isAggT at h1
      split at h1
      · rename_i hh; rw [hh] at hv; exact hv
      · rename_i hh; rw [hh] at hv; exact hv
      · cases h1
    obtain ⟨cs, rfl, hsz, ts, hts, _, hcell⟩ := hv'
    rw [hts] at h2
    simp only [Bool.and_eq_true] at h2
    obtain ⟨h4, h5⟩ := h2
    have h4 := beq_t h4
    have key : ∀ l : List Value, (∀ v ∈ l, ∃ n, v = Value.int .i64 n ∧ InI64 n) → ∃ ns : List Int, ns.length = l.length ∧ (∀ x ∈ ns, InI64 x) ∧ DAll W bad (ns.map (D.int .i64)) l := by
      intro l
      induction l with
      | nil => intro _; exact ⟨[], rfl, by simp, by simp [DAll]⟩
      | cons v r ih =>
        intro h
        obtain ⟨n, hn, hr⟩ := h v (by simp)
        obtain ⟨ns, e1, e2, e3⟩ := ih fun v hv => h v (by simp [hv])
        refine ⟨n :: ns, by simp [e1], fun x hx => ?_, ?_⟩
        · rcases List.mem_cons.1 hx with rfl | hx
          · exact hr
          · exact e2 x hx
        · simp only [List.map_cons, DAll]
          exact ⟨by simp [DIn, hn], e3⟩
    obtain ⟨ns, e1, e2, e3⟩ := key cs.toList fun v hv => by
      obtain ⟨i, hi, rfl⟩ := List.getElem_of_mem hv
      have hi' : i < cs.size := by simpa using hi
      obtain ⟨u, hu, hc⟩ := hcell i cs[i] (by simp [hi'])
      have hut : isI64 P u = true := by
        have hm := List.mem_of_getElem? hu
        exact List.all_eq_true.1 h5 u hm
      exact cell_i64 (isI64_under hut) (by simpa using hc)
    have hd : DIn W bad (.agg (ns.map (D.int .i64))) (.agg cs) := by
      simp only [DIn]
      exact ⟨cs, rfl, e3⟩
    exact ⟨.agg (ns.map (D.int .i64)), ⟨ns, by rw [e1]; simp; omega, rfl, e2⟩, hd, fun ds vs μ h => ArgsIn_cons hd h⟩

theorem openArgs {W : World} {r : Reach} {base : Nat} {bad : Nat → Prop} : ∀ {ks : List ArgK} {ts : List TypeId} {vs : List Value}, argsOK P ks ts = true → vs.length = ts.length → (∀ (j : Nat) t v, ts[j]? = some t → vs[j]? = some v → Value.okWide P W r base t v) →
    ∃ ds, FitDs ks ds ∧ ArgsIn W bad ds vs []
  | [], [], [], _, _, _ => ⟨[], trivial, by simp [ArgsIn]⟩
  | k :: ks, t :: ts, v :: vs, hk, hl, hv => by
    simp only [argsOK, Bool.and_eq_true] at hk
    obtain ⟨ds, h1, h2⟩ := openArgs hk.2 (by simpa using hl) (fun j t v a b => hv (j + 1) t v (by simpa using a) (by simpa using b))
    obtain ⟨d, h3, _, h4⟩ := openArg (bad := bad) hk.1 (hv 0 t v rfl rfl)
    exact ⟨d :: ds, ⟨h3, h1⟩, h4 ds vs [] h2⟩
  | [], [], _ :: _, _, hl, _ => by simp at hl
  | [], _ :: _, _, hk, _, _ => by simp [argsOK] at hk
  | _ :: _, [], _, hk, _, _ => by simp [argsOK] at hk
  | _ :: _, _ :: _, [], _, hl, _ => by simp at hl

theorem trodAll_length {H : Type} {enc : TypeId × Value → H} {w : World} {b : Nat} {sp : Nat → Bool} {hd : Bool} : ∀ {ts : List TypeId} {vs : List Value} {ds : List (DataW H)} {ps : List MemPlace}, DataW.TrodAll enc P w b sp hd ts vs ds ps → vs.length = ts.length
  | [], [], [], _, _ => rfl
  | t :: ts, v :: vs, d :: ds, ps, h => by
    simp only [DataW.TrodAll] at h
    obtain ⟨p, q, _, h2, _⟩ := h
    simp [trodAll_length h2]
  | [], _ :: _, _, _, h => by simp [DataW.TrodAll] at h
  | [], [], _ :: _, _, h => by simp [DataW.TrodAll] at h
  | _ :: _, [], _, _, h => by simp [DataW.TrodAll] at h
  | _ :: _, _ :: _, [], _, h => by simp [DataW.TrodAll] at h

theorem trodAll_length_ds {H : Type} {enc : TypeId × Value → H} {w : World} {b : Nat} {sp : Nat → Bool} {hd : Bool} : ∀ {ts : List TypeId} {vs : List Value} {ds : List (DataW H)} {ps : List MemPlace}, DataW.TrodAll enc P w b sp hd ts vs ds ps → ds.length = ts.length
  | [], [], [], _, _ => rfl
  | t :: ts, v :: vs, d :: ds, ps, h => by
    simp only [DataW.TrodAll] at h
    obtain ⟨p, q, _, h2, _⟩ := h
    simp [trodAll_length_ds h2]
  | [], _ :: _, _, _, h => by simp [DataW.TrodAll] at h
  | [], [], _ :: _, _, h => by simp [DataW.TrodAll] at h
  | _ :: _, [], _, _, h => by simp [DataW.TrodAll] at h
  | _ :: _, _ :: _, [], _, h => by simp [DataW.TrodAll] at h

/-- What a row asks of a call. -/
theorem law_row {H : Type} {enc : TypeId × Value → H} {f : FuncId} {fn : Func} {s : ChangeSpec} (hl : laidOutB P = true) (hread0 : fn.params.toList.all (fun t => P.readableRec t && decide (t < P.types.size)) = true)
    {tb : TypeId} (hres : fn.resultTypes = #[tb]) (hbool : P.underlying tb = some .bool) (hvars : s.vars = [])
    {S : Nat → List D → (Res → Option Res) → Option Res} (hgood : ∀ n, GoodFn P f (S n)) {ks : List ArgK} (hks : argsOK P ks fn.params.toList = true)
    (hlaw : ∀ ds, FitDs ks ds → ∃ k, S k ds some = some ⟨[.bool true], []⟩)
    {W : World} {base : Nat} {args : Array Value} {ds gs : List (DataW H)} {before : List MemPlace}
    (hspec : ∀ ds : List (DataW H), ds.length = fn.params.toList.length → s.fn H ds = { results := [.lit (.bool true)], args := ds })
    (hval : ∀ (j : Nat) t v, fn.params[j]? = some t → args[j]? = some v → Value.okWide P W .any base t v)
    (hW : DataW.Whole enc P fn.params.toList s.vars false W args.toList ds gs before) :
    Calls P f args W fun e W' => ∃ v, e = .returned v ∧ s.post enc P fn false true false false W args v W' := by
  have hW' := hW
  obtain ⟨p, q, hA, hV, rfl, _, _⟩ := hW
  rw [hvars] at hV
  obtain ⟨hgs, hq⟩ : gs = [] ∧ q = [] := by
    cases gs with
    | nil => exact ⟨rfl, hV⟩
    | cons => simp [DataW.TrodVars] at hV
  subst hgs hq
  obtain ⟨dsD, hfit, hin⟩ := openArgs (bad := (· ∈ ([] : List Nat))) hks (trodAll_length hA) (fun j t v a b => hval j t v (by simpa using a) (by simpa using b))
  refine (law_calls hgood hin (hlaw dsD hfit)).mono fun e W' ⟨he, hb⟩ => ⟨.bool true, he, ?_⟩
  have hlt : ∀ x ∈ p, x.block < W.heap.size := fun x hx => hW'.lt x (by simp [hx])
  have hsp : s.fn H (ds ++ []) = { results := [.lit (.bool true)], args := ds } := by
    rw [List.append_nil]
    exact hspec ds (trodAll_length_ds hA)
  have hread : ∀ t ∈ fn.params.toList, P.readableRec t = true ∧ t < P.types.size := fun t ht => by
    have := List.all_eq_true.1 hread0 t ht
    simpa using this
  refine ⟨ds, [], p ++ [], [], p, [], hW', ?_, ?_, ?_, hb.frame _, fun h => by cases h⟩
  · rw [hsp, hres]
    exact trodAll_mk1 (shut_bool hbool true)
  · rw [hsp]
    exact trodAll_stays hl hb hread hA hlt
  · rw [hvars, hsp]
    exact rfl

end Go.Ev
