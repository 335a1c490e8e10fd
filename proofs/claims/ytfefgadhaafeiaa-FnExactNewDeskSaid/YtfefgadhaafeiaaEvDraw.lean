/- Regions that draw their order: read in one order, they hold in every order. -/
import Derived.Test.YtfefgadhaafeiaaEvCode
import Derived.Orders
namespace Go.Ev
open Go.RowKit

variable {α : Type} {P : Program} {w : World} {F : Fix} {L : LM} {st : St} {a : Act} {r : α}
variable {R : Res → Act → World → Prop} {E : Env α} {o : Oper} {k : St → Option α} {next : Act → World → Prop} {Q : Exit → Act → World → Prop}

/-! ### calls that hand back no block -/
theorem impCells_scal : ∀ {l : List D} {xs : List AV} {i : Imp} {κ : Imp → List AV → Option α}, scalAVs l = some xs → impCells i l κ = κ i xs
  | [], xs, i, κ, h => by
    simp only [scalAVs, Option.some.injEq] at h
    subst h
    rfl
  | d :: l, xs, i, κ, h => by
    simp only [scalAVs, Option.bind_eq_some_iff, Option.map_eq_some_iff] at h
    obtain ⟨x, hx, ys, hy, rfl⟩ := h
    have hc : ∀ κ' : Imp → AV → Option α, impCell i d κ' = κ' i x := fun κ' => by
      cases d <;> simp_all [scalarAV, impCell]
    simp only [impCells, hc]
    exact impCells_scal hy

theorem imps_scal : ∀ {rs : List D} {xs : List AV} {s : St} {avs acc : List AV} {n : Nat} {κ : Imp → Option α}, scalRs avs rs = some xs → imps ⟨s, avs, acc, n⟩ rs κ = κ ⟨s, avs, acc ++ xs, n⟩
  | [], xs, s, avs, acc, n, κ, h => by
    simp only [scalRs, Option.some.injEq] at h
    subst h
    simp [imps]
  | d :: rs, xs, s, avs, acc, n, κ, h => by
    simp only [scalRs, Option.bind_eq_some_iff, Option.map_eq_some_iff] at h
    obtain ⟨x, hx, ys, hy, rfl⟩ := h
    have hc : ∀ κ' : Imp → AV → Option α, imp ⟨s, avs, acc, n⟩ d κ' = κ' ⟨s, avs, acc, n⟩ x := fun κ' => by
      cases d with
      | agg l =>
        simp only [scalR, Option.map_eq_some_iff] at hx
        obtain ⟨zs, hz, rfl⟩ := hx
        simp only [imp, impCells_scal hz]
      | same j =>
        simp only [scalR] at hx
        simp [imp, hx]
      | _ => simp_all [scalR, scalarAV, imp, impCell]
    simp only [imps, hc]
    rw [imps_scal hy]
    simp

theorem evCallQ_ok (hE : EnvOK F E R) {c : Call} (hop : o.op = .call c) {f : Operand} (hcal : c.callee = .value f) (h : RelL F L st a w) (hg : Goes F k r next)
    (hk : evCallQ E o.dst (st.get f) (c.args.toList.map st.get) st k = some r) : o.wp E.P a w next Q := by
  unfold evCallQ at hk
  rw [Option.bind_eq_some_iff] at hk
  obtain ⟨⟨g, ds, avs⟩, hp, hk⟩ := hk
  unfold prepQ at hp
  split at hp
  · rename_i g' caps hf
    rw [Option.bind_eq_some_iff] at hp
    obtain ⟨ids, hids, hp⟩ := hp
    match ids, hids, hp with
    | [], hids, hp =>
      simp only at hp
      obtain ⟨hle, hp⟩ := ifB0 hp
      rw [Option.map_eq_some_iff] at hp
      obtain ⟨ds', hds, hp⟩ := hp
      simp only [Prod.mk.injEq] at hp
      obtain ⟨rfl, rfl, rfl⟩ := hp
      refine ok_call_core hE.hC hop hcal h hE.low hg hf hids rfl hds hk fun res hres => ?_
      rw [Option.bind_eq_some_iff] at hres
      obtain ⟨x, hx, hres⟩ := hres
      unfold postQ at hx
      split at hx
      · rename_i ho
        rw [Option.map_eq_some_iff] at hx
        obtain ⟨xs, hxs, rfl⟩ := hx
        rw [ho]
        simp only [Go.Ev.back, Option.bind_some, newId, hle, cond_true]
        rw [imps_scal hxs]
        simpa using hres
      · simp at hx
    | _ :: _, _, hp => simp at hp
  · simp at hp

theorem evOpQ_ok (hE : EnvOK F E R) (h : RelL F L st a w) (hg : Goes F k r next) (hk : evOpQ E o st k = some r) : o.wp E.P a w next Q := by
  unfold evOpQ at hk
  split at hk
  · rename_i c hop
    split at hk
    · rename_i f hcal
      exact evCallQ_ok hE hop hcal h hg hk
    · exact evOp_ok hE h hg hk
  · exact evOp_ok hE h hg hk

/-! ### what reads alone -/
theorem cond_bind' {β γ : Type} (c : Bool) (x y : Option β) (f : β → Option γ) : (bif c then x else y).bind f = bif c then x.bind f else y.bind f := by cases c <;> rfl

theorem get_put {x : Operand} {d : Nat} {v : AV} (h : d ∉ tmpsIn [x]) : (st.put (some d) v).get x = st.get x := by
  cases x with
  | tmp t =>
    simp only [tmpsIn, List.mem_singleton] at h
    simp only [St.get, St.put, List.getD_eq_getElem?_getD, List.getElem?_set_ne h]
  | _ => rfl

theorem evBin_bind {β : Type} {eqs : TypeId → Nat → Bool} {t : TypeId} {op : BinOp} {x y : AV} {κ : AV → Option β} : evBin P eqs t op x y κ = (evBin P eqs t op x y some).bind κ := by
  unfold evBin
  split <;> try rfl
  all_goals first
    | (rw [cond_bind']; rfl)
    | (split <;> first
        | rfl
        | (split <;> first
            | rfl
            | (rw [cond_bind']; rfl)))
    | (rw [cond_bind', Option.bind_assoc]; rfl)

theorem readRows_bind {β : Type} {l : List β} : ∀ {n i : Nat} {γ : Type} {κ : List β → Option γ}, readRows l i n κ = (readRows l i n some).bind κ
  | 0, i, γ, κ => rfl
  | n + 1, i, γ, κ => by
    simp only [readRows]
    cases l[i]? with
    | none => rfl
    | some x =>
      simp only [Option.bind_some]
      rw [readRows_bind (n := n) (κ := fun r => κ (x :: r)), readRows_bind (n := n) (κ := fun r => some (x :: r)), Option.bind_assoc]
      rfl

theorem read_bind {γ : Type} {b : Blk} {row col n : Nat} {κ : List AV → Option γ} : b.read row col n κ = (b.read row col n some).bind κ := by
  cases b with
  | mix m e l =>
    simp only [Blk.read]
    rw [cond_bind']
    rfl
  | rows m e t l =>
    simp only [Blk.read]
    rw [cond_bind', cond_bind', cond_bind']
    rw [readRows_bind (κ := fun xs => κ (xs.flatMap t.enc)), readRows_bind (κ := fun xs => some (xs.flatMap t.enc)), Option.bind_assoc]
    cases l[row]? <;> rfl

theorem oneOf_bind {γ : Type} {cs : List AV} {κ : AV → Option γ} : oneOf cs κ = (oneOf cs some).bind κ := by
  unfold oneOf
  split <;> rfl

theorem bcong {β γ : Type} {x : Option β} {f g : β → Option γ} (h : ∀ b, f b = g b) : x.bind f = x.bind g := by
  cases x with
  | none => rfl
  | some b => exact h b

/-- What reads alone: a value of the state, and of no more than the operands and the blocks. -/
theorem val_form (E : Env α) (o : Oper) (h : isVal o.op = true) : ∃ y : St → Option AV, (∀ st k, evOp E o st k = (y st).bind fun x => k (st.put o.dst x)) ∧ ∀ st d x, d ∉ tmpsIn o.op.operands.toList → y (st.put (some d) x) = y st := by
  have g1 : ∀ {st : St} {d : Nat} {v : AV} {x : Operand} {l : List Operand}, d ∉ tmpsIn l → x ∈ l → (st.put (some d) v).get x = st.get x := by
    intro st d v x l hd hx
    refine get_put fun hm => hd ?_
    clear hd
    induction l with
    | nil => simp at hx
    | cons y r ih =>
      rcases List.mem_cons.1 hx with rfl | hx
      · cases x with
        | tmp t => simp only [tmpsIn, List.mem_singleton] at hm ⊢; simp [hm]
        | _ => simp [tmpsIn] at hm
      · have := ih hx
        cases y with
        | tmp t => simp only [tmpsIn, List.mem_cons]; exact .inr this
        | _ => simpa only [tmpsIn] using this
  have hh : ∀ {st : St} {d : Nat} {v : AV}, (st.put (some d) v).heap = st.heap := fun {_ _ _} => rfl
  cases hop : o.op <;> rw [hop] at h <;> simp only [isVal] at h <;> try (cases h; done)
  case move x =>
    refine ⟨fun st => some (st.get x), fun st k => by simp only [evOp, hop]; rfl, fun st d v hd => ?_⟩
    simp only [Op.operands] at hd
    simp only [g1 (x := x) hd (by simp)]
  case assign x =>
    refine ⟨fun st => some (st.get x), fun st k => by simp only [evOp, hop]; rfl, fun st d v hd => ?_⟩
    simp only [Op.operands] at hd
    simp only [g1 (x := x) hd (by simp)]
  case load t x =>
    refine ⟨fun st => match st.get x with
      | .ptr id r c => (look st.heap id).bind fun b => (sizeT E.P t).bind fun n => (aggT E.P t).bind fun ag => b.read r c n fun cs => bif ag then some (.agg cs) else oneOf cs some
      | _ => none, fun st k => ?_, fun st d v hd => ?_⟩
    · simp only [evOp, hop]
      cases hx : st.get x with
      | ptr id r c =>
        simp only [Option.bind_assoc]
        refine bcong fun b => bcong fun n => bcong fun ag => ?_
        rw [read_bind, read_bind (κ := fun cs => bif ag then some (.agg cs) else oneOf cs some), Option.bind_assoc]
        refine bcong fun cs => ?_
        rw [cond_bind', oneOf_bind]
        rfl
      | _ => rfl
    · simp only [Op.operands] at hd
      simp only [g1 (x := x) hd (by simp), hh]
  case binOp op t x y t2 =>
    refine ⟨fun st => evBin E.P E.eqs t op (st.get x) (st.get y) some, fun st k => ?_, fun st d v hd => ?_⟩
    · simp only [evOp, hop]
      rw [evBin_bind]
    · simp only [Op.operands] at hd
      simp only [g1 (x := x) hd (by simp), g1 (x := y) hd (by simp)]
  case unOp op t x =>
    refine ⟨fun st => evUn op (st.get x) some, fun st k => ?_, fun st d v hd => ?_⟩
    · simp only [evOp, hop]
      unfold evUn
      split <;> rfl
    · simp only [Op.operands] at hd
      simp only [g1 (x := x) hd (by simp)]
  case convert s t x =>
    refine ⟨fun st => match E.P.underlying s, E.P.underlying t, st.get x with
      | some _, some (.int k), .int _ n => some (.int k (k.wrap n))
      | some _, some .string, .str s => some (.str s)
      | _, _, _ => none, fun st k => ?_, fun st d v hd => ?_⟩
    · simp only [evOp, hop]
      cases E.P.underlying s with
      | none => rfl
      | some sd =>
        cases E.P.underlying t with
        | none => rfl
        | some td => cases td <;> cases st.get x <;> rfl
    · simp only [Op.operands] at hd
      simp only [g1 (x := x) hd (by simp)]
  case fieldAddr s x f =>
    refine ⟨fun st => match E.P.underlying s, st.get x with
      | some (.struct fs), .ptr id r c => (fs[f]?).bind fun fd => (sizeT E.P fd.type).bind fun n => bif Nat.beq n 0 then none else (look st.heap id).bind fun b =>
        bif Nat.beq b.w 1 then some (.ptr id (moved r fd.offset 1) c) else some (.ptr id r (moved c fd.offset 1))
      | _, _ => none, fun st k => ?_, fun st d v hd => ?_⟩
    · simp only [evOp, hop]
      cases E.P.underlying s with
      | none => rfl
      | some td =>
        cases td with
        | struct fs =>
          cases hx : st.get x with
          | ptr id r c =>
            simp only [Option.bind_assoc]
            refine bcong fun fd => bcong fun n => ?_
            rw [cond_bind']
            cases Nat.beq n 0 with
            | true => rfl
            | false =>
              simp only [cond_false, Option.bind_assoc]
              refine bcong fun b => ?_
              rw [cond_bind']
              rfl
          | _ => rfl
        | _ => rfl
    · simp only [Op.operands] at hd
      simp only [g1 (x := x) hd (by simp), hh]
  case field t x f =>
    refine ⟨fun st => match E.P.underlying t, st.get x with
      | some (.struct fs), .agg l => (fs[f]?).bind fun fd => (sizeT E.P fd.type).bind fun n => (aggT E.P fd.type).bind fun ag =>
        bif ag then some (.agg ((l.drop fd.offset).take n)) else l[fd.offset]?
      | _, _ => none, fun st k => ?_, fun st d v hd => ?_⟩
    · simp only [evOp, hop]
      cases E.P.underlying t with
      | none => rfl
      | some td =>
        cases td with
        | struct fs =>
          cases hx : st.get x with
          | agg l =>
            simp only [Option.bind_assoc]
            refine bcong fun fd => bcong fun n => bcong fun ag => ?_
            rw [cond_bind']
            rfl
          | _ => rfl
        | _ => rfl
    · simp only [Op.operands] at hd
      simp only [g1 (x := x) hd (by simp)]
  case extract x i =>
    refine ⟨fun st => match st.get x with
      | .tup l => l[i]?
      | _ => none, fun st k => ?_, fun st d v hd => ?_⟩
    · simp only [evOp, hop]
      cases hx : st.get x <;> rfl
    · simp only [Op.operands] at hd
      simp only [g1 (x := x) hd (by simp)]
  case indexAddr t x i =>
    refine ⟨fun st => match E.P.underlying t, st.get x, st.get i with
      | some (.array len e), .ptr id r c, .int _ n => (sizeT E.P e).bind fun s => (look st.heap id).bind fun b =>
        bif decide (0 ≤ n) && decide (n < (len : Int)) then bif Nat.beq b.w 1 then some (.ptr id (moved r n.toNat s) c) else some (.ptr id r (moved c n.toNat s))
        else none
      | some (.slice e), .sl id, .int _ n => (sizeT E.P e).bind fun s => (look st.heap id).bind fun b =>
        bif Nat.beq s b.w then bif decide (0 ≤ n) && decide (n < (b.n : Int)) then some (.ptr id n.toNat 0) else none else none
      | some (.slice e), .sub id lo m, .int _ n => (sizeT E.P e).bind fun s => (look st.heap id).bind fun b =>
        bif Nat.beq s b.w then bif decide (0 ≤ n) && decide (n < (m : Int)) then some (.ptr id (moved lo n.toNat 1) 0) else none else none
      | _, _, _ => none, fun st k => ?_, fun st d v hd => ?_⟩
    · simp only [evOp, hop]
      split
      · rename_i h1 h2 h3
        simp only [h1, h2, h3, Option.bind_assoc]
        refine bcong fun s => bcong fun b => ?_
        simp only [cond_bind', Option.bind_some, Option.bind_none]
      · rename_i h1 h2 h3
        simp only [h1, h2, h3, Option.bind_assoc]
        refine bcong fun s => bcong fun b => ?_
        simp only [cond_bind', Option.bind_some, Option.bind_none]
      · rename_i h1 h2 h3
        simp only [h1, h2, h3, Option.bind_assoc]
        refine bcong fun s => bcong fun b => ?_
        simp only [cond_bind', Option.bind_some, Option.bind_none]
      · rename_i h1 h2 h3
        split
        · rename_i e1 e2 e3; exact absurd e3 (h1 _ _ _ _ _ _ _ e1 e2)
        · rename_i e1 e2 e3; exact absurd e3 (h2 _ _ _ _ e1 e2)
        · rename_i e1 e2 e3; exact absurd e3 (h3 _ _ _ _ _ _ e1 e2)
        · rfl
    · simp only [Op.operands] at hd
      simp only [g1 (x := x) hd (by simp), g1 (x := i) hd (by simp), hh]
  case index t x i =>
    refine ⟨fun st => match E.P.underlying t, st.get x, st.get i with
      | some .string, .str s, .int _ n => bif decide (0 ≤ n) then (s.data.toList[n.toNat]?).bind fun c => some (.int .u8 c.toNat) else none
      | some (.array len e), .agg l, .int _ n => (sizeT E.P e).bind fun s => (aggT E.P e).bind fun ag =>
        bif decide (0 ≤ n) && decide (n < (len : Int)) then bif ag then some (.agg ((l.drop (moved 0 n.toNat s)).take s)) else l[moved 0 n.toNat s]?
        else none
      | _, _, _ => none, fun st k => ?_, fun st d v hd => ?_⟩
    · simp only [evOp, hop]
      split
      · rename_i h1 h2 h3
        simp only [h1, h2, h3, cond_bind', Option.bind_assoc, Option.bind_some, Option.bind_none]
      · rename_i h1 h2 h3
        simp only [h1, h2, h3, Option.bind_assoc]
        refine bcong fun s => bcong fun b => ?_
        simp only [cond_bind', Option.bind_some, Option.bind_none]
      · rename_i h1 h2
        split
        · rename_i e1 e2 e3; exact absurd e3 (h1 _ _ _ e1 e2)
        · rename_i e1 e2 e3; exact absurd e3 (h2 _ _ _ _ _ e1 e2)
        · rfl
    · simp only [Op.operands] at hd
      simp only [g1 (x := x) hd (by simp), g1 (x := i) hd (by simp)]
  case call c =>
    split at h
    · rename_i hcal
      refine ⟨fun st => match c.args.toList.map st.get, c.argTypes.toList with
        | [x], [t] => match E.P.underlying t, x with
          | some (.slice _), .str _ => none
          | some .string, .str s => some (.int .i64 s.size)
          | some (.slice _), x => (lenAV st.heap x).bind fun n => some (.int .i64 n)
          | _, _ => none
        | _, _ => none, fun st k => ?_, fun st d v hd => ?_⟩
      · simp only [evOp, hop, hcal, evBuiltin]
        generalize c.args.toList.map st.get = xs
        match xs with
        | [] => rfl
        | _ :: _ :: _ => rfl
        | [x] =>
          generalize c.argTypes.toList = ts
          match ts with
          | [] => rfl
          | _ :: _ :: _ => rfl
          | [t] =>
            simp only
            cases E.P.underlying t with
            | none => rfl
            | some td => cases td <;> cases x <;> simp only [Option.bind_assoc] <;> rfl
      · have hmap : c.args.toList.map (st.put (some d) v).get = c.args.toList.map st.get := by
          refine List.map_congr_left fun x hx => g1 (l := (Op.call c).operands.toList) hd ?_
          simp [Op.operands, Call.operands, hcal]
          simpa using hx
        simp only [hmap, hh]
    · cases h

theorem put_comm {d e : Nat} {x y : AV} (h : d ≠ e) : (st.put (some d) x).put (some e) y = (st.put (some e) y).put (some d) x := by
  simp only [St.put]
  rw [List.set_comm _ _ h]

theorem evOpQ_val (h : isVal o.op = true) : evOpQ E o st k = evOp E o st k := by
  unfold evOpQ
  split
  · rename_i c hop
    split
    · rename_i f hcal
      rw [hop] at h
      simp [isVal, hcal] at h
    · rfl
  · rfl

/-- Two that may be swapped are swapped. -/
theorem swap_ok {a b : Oper} (h : swapOK a b = true) {st : St} {k : St → Option α} (hk : (evOpQ E a st fun s => evOpQ E b s k) = some r) : (evOpQ E b st fun s => evOpQ E a s k) = some r := by
  simp only [swapOK, Bool.and_eq_true, Bool.or_eq_true] at h
  obtain ⟨⟨ha, hb⟩, h⟩ := h
  split at h
  · rename_i da db hda hdb
    simp only [Bool.and_eq_true, Bool.not_eq_true'] at h
    have hne := beq_ne h.1
    have h1 := memN_false h.2.1
    have h2 := memN_false h.2.2
    obtain ⟨ya, ea, fa⟩ := val_form E a ha
    simp only [evOpQ_val ha] at hk ⊢
    rw [ea, Option.bind_eq_some_iff] at hk
    obtain ⟨xa, hxa, hk⟩ := hk
    rcases hb with hb | hb
    · obtain ⟨yb, eb, fb⟩ := val_form E b hb
      simp only [evOpQ_val hb] at hk ⊢
      rw [eb, hda, fb _ _ _ h1, Option.bind_eq_some_iff] at hk
      obtain ⟨xb, hxb, hk⟩ := hk
      rw [eb, hxb, Option.bind_some, ea, hdb, fa _ _ _ h2, hxa, Option.bind_some, hda, ← put_comm hne, ← hdb]
      exact hk
    · unfold isCallV at hb
      split at hb
      · rename_i c hop
        split at hb
        · rename_i f hcal
          have form : ∀ (st : St) (k : St → Option α), evOpQ E b st k = evCallQ E b.dst (st.get f) (c.args.toList.map st.get) st k := fun st k => by
            simp only [evOpQ, hop, hcal]
          have hops : b.op.operands.toList = f :: c.args.toList := by
            rw [hop]; simp [Op.operands, Call.operands, hcal]
          rw [hops] at h1
          have gf : (st.put (some da) xa).get f = st.get f := get_put fun hm => h1 (by
            cases f with
            | tmp t => simp only [tmpsIn, List.mem_singleton] at hm; simp [tmpsIn, hm]
            | _ => simp [tmpsIn] at hm)
          have gmap : c.args.toList.map (st.put (some da) xa).get = c.args.toList.map st.get := by
            refine List.map_congr_left fun x hx => get_put fun hm => h1 ?_
            have : ∀ l : List Operand, x ∈ l → da ∈ tmpsIn l := by
              intro l
              induction l with
              | nil => intro h; simp at h
              | cons y r ih =>
                intro h
                rcases List.mem_cons.1 h with rfl | h
                · cases x with
                  | tmp t => simp only [tmpsIn, List.mem_singleton] at hm; simp [tmpsIn, hm]
                  | _ => simp [tmpsIn] at hm
                · have := ih h
                  cases y with
                  | tmp t => simp only [tmpsIn, List.mem_cons]; exact .inr this
                  | _ => simpa only [tmpsIn] using this
            exact this _ (by simp [hx])
          rw [form, hda, gf, gmap] at hk
          rw [form]
          unfold evCallQ at hk ⊢
          have hheap : (st.put (some da) xa).heap = st.heap := rfl
          rw [hheap] at hk
          rw [← hk]
          refine bcong fun p => ?_
          congr 1
          funext res
          refine bcong fun x => ?_
          show evOp E a (st.put b.dst x) k = _
          rw [ea, hdb, fa _ _ _ h2, hxa, Option.bind_some, hda, ← put_comm hne]
        · cases hb
      · cases hb
  · cases h

/-- To the front. -/
theorem front_ok {ops : Array Oper} {i : Nat} {oi : Oper} (hi : ops[i]? = some oi) {post : List Nat} : ∀ {pre : List Nat} {st : St} {k : St → Option α} {r : α}, (∀ j ∈ pre, ∃ oj, ops[j]? = some oj ∧ swapOK oj oi = true) → evIdx E ops (pre ++ i :: post) st k = some r → (evOpQ E oi st fun s => evIdx E ops (pre ++ post) s k) = some r
  | [], st, k, r, _, hk => by
    simp only [List.nil_append, evIdx, hi] at hk
    exact hk
  | j :: pre, st, k, r, hp, hk => by
    obtain ⟨oj, hj, hs⟩ := hp j (by simp)
    simp only [List.cons_append, evIdx, hj] at hk
    have hv : isVal oj.op = true := by
      simp only [swapOK, Bool.and_eq_true] at hs
      exact hs.1.1
    obtain ⟨yj, ej, _⟩ := val_form E oj hv
    have hk2 : (evOpQ E oj st fun s => evOpQ E oi s fun s => evIdx E ops (pre ++ post) s k) = some r := by
      rw [evOpQ_val hv, ej, Option.bind_eq_some_iff] at hk ⊢
      obtain ⟨x, hx, hk⟩ := hk
      exact ⟨x, hx, front_ok hi (fun j hj => hp j (by simp [hj])) hk⟩
    have := swap_ok hs hk2
    simp only [List.cons_append, evIdx, hj]
    exact this

/-! ### orders -/
def Closed (ops : Array Oper) (S : Nat → Prop) : Prop := ∀ m om, S m → ops[m]? = some om → ∀ e ∈ depsOf om.after.toList, S e

theorem joinN_mem {l : List Nat} : ∀ {as : List Nat} {x : Nat}, x ∈ joinN as l ↔ x ∈ as ∨ x ∈ l := by
  intro as
  induction as generalizing l with
  | nil => intro x; simp [joinN]
  | cons a r ih =>
    intro x
    simp only [joinN]
    cases h : memN a l with
    | true =>
      have := memN_iff.1 h
      rw [cond_true, ih]
      constructor
      · rintro (h | h) <;> simp [h]
      · rintro (h | h)
        · rcases List.mem_cons.1 h with rfl | h
          · exact .inr this
          · exact .inl h
        · exact .inr h
    | false =>
      rw [cond_false, ih]
      simp only [List.mem_cons]
      constructor
      · rintro (h | h | h) <;> simp [h]
      · rintro ((h | h) | h) <;> simp [h]

theorem waitsFor_spec {ops : Array Oper} {t : List (Nat × List Nat)} (ht : ∀ m x, x ∈ lookA t m → ∀ S, Closed ops S → S m → S x) : ∀ {ds : List Nat} {x : Nat}, x ∈ waitsFor t ds → ∀ S, Closed ops S → (∀ e ∈ ds, S e) → S x
  | [], x, h, _, _, _ => by simp [waitsFor] at h
  | e :: r, x, h, S, hS, hd => by
    simp only [waitsFor, joinN_mem, List.mem_cons] at h
    rcases h with (rfl | h) | h
    · exact hd _ (by simp)
    · exact ht e x h S hS (hd e (by simp))
    · exact waitsFor_spec ht h S hS fun e he => hd e (by simp [he])

/-- What is known of an operation in such an order; 'a': those ahead of it. -/
structure OrdAt (ops : Array Oper) (a : List Nat) (i : Nat) : Prop where
  ex : ∃ o, ops[i]? = some o ∧ o.guard = none ∧ (∀ e ∈ depsOf o.after.toList, e ∈ a) ∧ i ∉ a ∧
    ∀ j ∈ a, (∀ S, Closed ops S → (∀ e ∈ depsOf o.after.toList, S e) → S j) ∨ ∃ oj, ops[j]? = some oj ∧ swapOK oj o = true

theorem subN_mem {l m : List Nat} (h : subN l m = true) : ∀ x ∈ l, x ∈ m := by
  induction l with
  | nil => simp
  | cons a r ih =>
    simp only [subN, Bool.and_eq_true] at h
    intro x hx
    rcases List.mem_cons.1 hx with rfl | hx
    · exact memN_iff.1 h.1
    · exact ih h.2 x hx

theorem pairsOK_spec {ops : Array Oper} {o : Oper} {w : List Nat} : ∀ {done : List Nat}, ordFrom.pairsOK ops o w done = true → ∀ j ∈ done, j ∈ w ∨ ∃ oj, ops[j]? = some oj ∧ swapOK oj o = true
  | [], _, j, h => by simp at h
  | i :: r, h, j, hj => by
    simp only [ordFrom.pairsOK, Bool.and_eq_true, Bool.or_eq_true] at h
    rcases List.mem_cons.1 hj with rfl | hj
    · rcases h.1 with h1 | h1
      · exact .inl (memN_iff.1 h1)
      · split at h1
        · rename_i oj ho; exact .inr ⟨oj, ho, h1⟩
        · cases h1
    · exact pairsOK_spec h.2 j hj

theorem allIn_spec {l : List Nat} : ∀ {n : Nat}, ordFrom.allIn n l = true → ∀ m < n, m ∈ l
  | 0, _, m, h => by omega
  | n + 1, h, m, hm => by
    simp only [ordFrom.allIn, Bool.and_eq_true] at h
    by_cases e : m = n
    · subst e; exact memN_iff.1 h.1
    · exact allIn_spec h.2 m (by omega)

theorem ord_spec {ops : Array Oper} : ∀ {l : List Nat} {t : List (Nat × List Nat)} {done : List Nat}, ordFrom ops l t done = true → (∀ m x, x ∈ lookA t m → ∀ S, Closed ops S → S m → S x) →
    (∀ a i b, l = a ++ i :: b → OrdAt ops (a.reverse ++ done) i) ∧ ∀ m < ops.size, m ∈ done ∨ m ∈ l
  | [], t, done, h, _ => by
    simp only [ordFrom] at h
    exact ⟨fun a i b e => by simp at e, fun m hm => .inl (allIn_spec h m hm)⟩
  | i :: l, t, done, h, ht => by
    simp only [ordFrom] at h
    split at h
    · rename_i o ho
      simp only [Bool.and_eq_true] at h
      obtain ⟨hg, hr, hp, h⟩ := h
      have hguard : o.guard = none := by
        unfold noGuard at hg
        split at hg
        · assumption
        · cases hg
      simp only [readyQ, ho, Bool.and_eq_true, Bool.not_eq_true'] at hr
      have hnot := memN_false hr.1
      have hdeps := subN_mem hr.2
      obtain ⟨k1, k2⟩ := ord_spec h (fun m x hx S hS hm => by
        simp only [lookA] at hx
        cases hb : Nat.beq i m with
        | true =>
          rw [hb, cond_true] at hx
          have := beq_t hb
          subst this
          exact waitsFor_spec ht hx S hS (hS i o hm ho)
        | false =>
          rw [hb, cond_false] at hx
          exact ht m x hx S hS hm)
      refine ⟨fun a j b e => ?_, fun m hm => ?_⟩
      · cases a with
        | nil =>
          simp only [List.nil_append, List.cons.injEq] at e
          obtain ⟨rfl, rfl⟩ := e
          refine ⟨o, ho, hguard, by simpa using hdeps, by simpa using hnot, fun j hj => ?_⟩
          rcases pairsOK_spec hp j (by simpa using hj) with h1 | h1
          · exact .inl fun S hS hd => waitsFor_spec ht h1 S hS hd
          · exact .inr h1
        | cons x a =>
          simp only [List.cons_append, List.cons.injEq] at e
          obtain ⟨rfl, e⟩ := e
          have := k1 a j b e
          simpa [List.append_assoc] using this
      · rcases k2 m hm with h1 | h1
        · rcases List.mem_cons.1 h1 with rfl | h1
          · exact .inr (by simp)
          · exact .inl h1
        · exact .inr (by simp [h1])
    · cases h

theorem cons_sub {i : Nat} {l σ : List Nat} (h : (i :: l).Sublist σ) : ∃ a b, σ = a ++ i :: b ∧ l.Sublist b := by
  induction σ with
  | nil => cases h
  | cons x σ ih =>
    cases h with
    | cons _ h =>
      obtain ⟨a, b, e, h2⟩ := ih h
      exact ⟨x :: a, b, by rw [e]; rfl, h2⟩
    | cons_cons _ h => exact ⟨[], σ, rfl, h⟩

theorem mem_of_ord {ops : Array Oper} {σ : List Nat} (hσ : ∀ a i b, σ = a ++ i :: b → OrdAt ops a.reverse i) : σ.Nodup ∧ ∀ i ∈ σ, i < ops.size := by
  constructor
  · have key : ∀ (b a : List Nat), σ = a ++ b → b.Nodup ∧ ∀ x ∈ b, x ∉ a := by
      intro b
      induction b with
      | nil => intro a _; exact ⟨List.nodup_nil, by simp⟩
      | cons i b ih =>
        intro a e
        obtain ⟨n1, n2⟩ := ih (a ++ [i]) (by rw [e]; simp)
        obtain ⟨o, _, _, _, hn, _⟩ := (hσ a i b e).ex
        refine ⟨List.nodup_cons.2 ⟨fun h => n2 i h (by simp), n1⟩, fun x hx => ?_⟩
        rcases List.mem_cons.1 hx with rfl | hx
        · simpa using hn
        · intro h
          exact n2 x hx (by simp [h])
    exact (key σ [] rfl).1
  · intro i hi
    obtain ⟨a, b, e⟩ := List.append_of_mem hi
    obtain ⟨o, ho, _⟩ := (hσ a i b e).ex
    exact (Array.getElem?_eq_some_iff.1 ho).1

theorem draw_any (hE : EnvOK F E R) {ops : Array Oper} {σ : List Nat} (hσ : ∀ a i b, σ = a ++ i :: b → OrdAt ops a.reverse i) {k : St → Option α} {r : α} (hQ : ∀ st a w, k st = some r → Rel F st a w → Q .normal a w) :
    ∀ (n : Nat) {l : List Nat} {listed : Array Bool} {st : St} {a : Act} {w : World}, l.length ≤ n → l.Sublist σ → (∀ m, listed.getD m true = false ↔ m ∈ l) → listed.size = ops.size → Closed ops (fun m => listed.getD m false = true) →
      evIdx E ops l st k = some r → Rel F st a w → wpAny E.P .any ops Q n listed a w := by
  obtain ⟨hnd, hlt⟩ := mem_of_ord hσ
  have ready_l : ∀ {l : List Nat} {listed : Array Bool}, (∀ m, listed.getD m true = false ↔ m ∈ l) → ∀ i ∈ Region.ready .any ops listed, i ∈ l := fun h i hi => (h i).1 (mem_ready.1 hi).1
  have depmem : ∀ (es : List Edge) (e : Edge), e ∈ es → Region.binds .any e = true → e.on ∈ depsOf es := by
    intro es
    induction es with
    | nil => intro e he; simp at he
    | cons x r ih =>
      intro e he hb
      simp only [depsOf]
      rcases List.mem_cons.1 he with rfl | he
      · rw [hb, cond_true]; simp
      · cases Region.binds .any x with
        | true => rw [cond_true]; exact List.mem_cons_of_mem _ (ih e he hb)
        | false => rw [cond_false]; exact ih e he hb
  have memdep : ∀ (es : List Edge) (d : Nat), d ∈ depsOf es → ∃ e ∈ es, Region.binds .any e = true ∧ e.on = d := by
    intro es
    induction es with
    | nil => intro d hd; simp [depsOf] at hd
    | cons x r ih =>
      intro d hd
      simp only [depsOf] at hd
      cases hb : Region.binds .any x with
      | true =>
        rw [hb, cond_true] at hd
        rcases List.mem_cons.1 hd with rfl | hd
        · exact ⟨x, by simp, hb, rfl⟩
        · obtain ⟨e, h1, h2⟩ := ih d hd
          exact ⟨e, by simp [h1], h2⟩
      | false =>
        rw [hb, cond_false] at hd
        obtain ⟨e, h1, h2⟩ := ih d hd
        exact ⟨e, by simp [h1], h2⟩
  have getD_lt : ∀ {listed : Array Bool} {m : Nat}, listed.size = ops.size → m < ops.size → listed.getD m true ≠ false → listed.getD m false = true := by
    intro listed m hs hm h
    have hm' : m < listed.size := by omega
    simp only [Array.getD_eq_getD_getElem?, Array.getElem?_eq_getElem hm', Option.getD_some] at h ⊢
    cases hb : listed[m] with
    | true => rfl
    | false => exact absurd hb h
  have head_ready : ∀ {l : List Nat} {listed : Array Bool} {i : Nat} {l' : List Nat}, l = i :: l' → l.Sublist σ → (∀ m, listed.getD m true = false ↔ m ∈ l) → listed.size = ops.size → i ∈ Region.ready .any ops listed := by
    intro l listed i l' e hsub hl hs
    subst e
    obtain ⟨a, b, eσ, hb⟩ := cons_sub hsub
    obtain ⟨o, ho, _, hd, hn, _⟩ := (hσ a i b eσ).ex
    refine mem_ready.2 ⟨(hl i).2 (by simp), o, ho, fun e he hbind => ?_⟩
    have hea : e.on ∈ a := by simpa using hd e.on (depmem _ e (by simpa using he) hbind)
    have hesz : e.on < ops.size := hlt _ (by rw [eσ]; simp [hea])
    refine getD_lt hs hesz fun hf => ?_
    have hin := (hl e.on).1 hf
    rw [eσ] at hnd
    have hdis := (List.nodup_append.1 hnd).2.2 e.on hea
    rcases List.mem_cons.1 hin with h1 | h1
    · exact hdis i (by simp) h1
    · exact hdis e.on (by simp [hb.subset h1]) rfl
  intro n
  induction n with
  | zero =>
    intro l listed st a w hlen hsub hl hs hc hk hrel
    have hnil : l = [] := List.eq_nil_of_length_eq_zero (by omega)
    subst hnil
    refine ⟨List.eq_nil_iff_forall_not_mem.2 fun i hi => by have := ready_l hl i hi; simp at this, hQ st a w hk hrel⟩
  | succ n ih =>
    intro l listed st a w hlen hsub hl hs hc hk hrel
    refine ⟨fun hr => ?_, fun i hi => ?_⟩
    · cases l with
      | nil => exact hQ st a w hk hrel
      | cons i l' =>
        have := head_ready rfl hsub hl hs
        rw [hr] at this
        simp at this
    · have hil := ready_l hl i hi
      obtain ⟨pre, post, rfl⟩ := List.append_of_mem hil
      obtain ⟨r1, r2, eσ, hpre, hpost⟩ := List.append_sublist_iff.1 hsub
      obtain ⟨a2, b, e2, hb⟩ := cons_sub hpost
      obtain ⟨oi, hoi, hg, hd, hn, hpair⟩ := (hσ (r1 ++ a2) i b (by rw [eσ, e2, List.append_assoc])).ex
      have hready := mem_ready.1 hi
      have hdeps : ∀ e ∈ depsOf oi.after.toList, listed.getD e false = true := fun d hd => by
        obtain ⟨e, he, hbind, rfl⟩ := memdep _ d hd
        obtain ⟨_, o2, ho2, hall⟩ := hready
        rw [hoi] at ho2
        have := Option.some.inj ho2
        subst this
        exact hall e (by simpa using he) hbind
      have hswap : ∀ j ∈ pre, ∃ oj, ops[j]? = some oj ∧ swapOK oj oi = true := fun j hj => by
        rcases hpair j (by simp [hpre.subset hj]) with h1 | h1
        · exfalso
          have h2 := h1 _ hc hdeps
          have h3 := (hl j).2 (by simp [hj])
          have hjs : j < listed.size := by rw [hs]; exact hlt j (by rw [eσ]; simp [hpre.subset hj])
          simp only [Array.getD_eq_getD_getElem?, Array.getElem?_eq_getElem hjs, Option.getD_some] at h2 h3
          rw [h2] at h3
          cases h3
        · exact h1
      have hfront := front_ok hoi hswap hk
      unfold wpOp
      rw [hoi]
      have hwant : Region.wanted oi (yielded ops a.tmps) = true := by simp [Region.wanted, hg]
      simp only [hwant, if_true]
      left
      obtain ⟨L, hL⟩ := hrel
      refine evOpQ_ok hE hL (fun st' a' w' hk' hr' => ?_) hfront
      have hlnd : (pre ++ i :: post).Nodup := hnd.sublist hsub
      have hisz : i < listed.size := by rw [hs]; exact hlt i (by rw [eσ, e2]; simp)
      refine ih (l := pre ++ post) (by simp at hlen ⊢; omega) ?_ (fun m => ?_) (by simpa using hs) ?_ hk' hr'
      · exact List.Sublist.trans (List.Sublist.append (List.Sublist.refl _) (List.sublist_cons_self _ _)) hsub
      · by_cases hm : m = i
        · subst hm
          have hni : m ∉ pre ++ post := by
            have := List.nodup_append.1 hlnd
            have h2 := List.nodup_cons.1 this.2.1
            intro h
            rcases List.mem_append.1 h with h | h
            · exact this.2.2 m h m (by simp) rfl
            · exact h2.1 h
          simp [Array.getD_eq_getD_getElem?, hisz]
          simpa using hni
        · have e1 : (listed.setIfInBounds i true).getD m true = listed.getD m true := by
            simp [Array.getD_eq_getD_getElem?, Ne.symm hm]
          rw [e1, hl m]
          simp [hm]
      · intro m om hm hom e he
        by_cases hei : e = i
        · subst hei
          simp [Array.getD_eq_getD_getElem?, hisz]
        · have e1 : (listed.setIfInBounds i true).getD e false = listed.getD e false := by
            simp [Array.getD_eq_getD_getElem?, Ne.symm hei]
          show (listed.setIfInBounds i true).getD e false = true
          rw [e1]
          by_cases hmi : m = i
          · subst hmi
            rw [hoi] at hom
            have := Option.some.inj hom
            subst this
            exact hdeps e he
          · have e2 : (listed.setIfInBounds i true).getD m false = listed.getD m false := by
              simp [Array.getD_eq_getD_getElem?, Ne.symm hmi]
            have hm' : (listed.setIfInBounds i true).getD m false = true := hm
            rw [e2] at hm'
            exact hc m om hm' hom e he

theorem orderQ_length (ops : Array Oper) : ∀ (n : Nat) (done : List Nat), (orderQ ops n done).length ≤ n + done.length
  | 0, done => by simp [orderQ]
  | n + 1, done => by
    simp only [orderQ]
    split
    · rename_i i _
      have := orderQ_length ops n (i :: done)
      simp only [List.length_cons] at this
      omega
    · split
      · rename_i i _
        have := orderQ_length ops n (i :: done)
        simp only [List.length_cons] at this
        omega
      · simp

theorem evDraw_ok (hE : EnvOK F E R) {ops : Array Oper} {id : Nat} {k : St → Option α} {r : α} (hQ : ∀ st a w, k st = some r → Rel F st a w → Q .normal a w) (hk : evDraw E ops st k = some r) {a : Act} {w : World} (h : Rel F st a w) : (Code.region id ops true).wp E.P Q a w := by
  unfold evDraw at hk
  obtain ⟨hc, hk⟩ := ifB hk
  simp only [Bool.and_eq_true] at hc
  obtain ⟨h1, h2⟩ := ord_spec hc.2 (fun m x hx => by simp [lookA] at hx)
  have hσ : ∀ a i b, orderQ ops ops.size [] = a ++ i :: b → OrdAt ops a.reverse i := fun a i b e => by
    have := h1 a i b e
    simpa using this
  obtain ⟨hnd, hlt⟩ := mem_of_ord hσ
  refine wp_region_any hc.1 ?_
  refine draw_any hE hσ hQ ops.size (l := orderQ ops ops.size []) ?_ (List.Sublist.refl _) (fun m => ?_) (by simp) (fun m om hm hom => ?_) hk ?_
  · have := orderQ_length ops ops.size []
    simpa using this
  · constructor
    · intro hf
      have hm : m < ops.size := by
        rcases Nat.lt_or_ge m ops.size with h | h
        · exact h
        · simp [Array.getD_eq_getD_getElem?, Nat.not_lt.2 h] at hf
      rcases h2 m hm with h | h
      · simp at h
      · exact h
    · intro hm
      have := hlt m hm
      simp [Array.getD_eq_getD_getElem?, this]
  · exfalso
    rcases Nat.lt_or_ge m ops.size with h | h
    · simp [Array.getD_eq_getD_getElem?, h] at hm
    · simp [Array.getD_eq_getD_getElem?, Nat.not_lt.2 h] at hm
  · obtain ⟨L, hL⟩ := h
    exact ⟨L, { hL with
      heap := fun id b hb => by
        obtain ⟨l, hl, hbl⟩ := hL.heap id b hb
        exact ⟨l, hl, ⟨hbl.hw, hbl.hn, hbl.hm, hbl.le, hbl.cells, hbl.ro, hbl.own, hbl.m1, hbl.m2, hbl.nb⟩⟩
      below := ⟨hL.below.os, hL.below.tape, hL.below.output, hL.below.size, hL.below.block⟩ }⟩

end Go.Ev
