/- Regions that draw their order: read in one order, they hold in every order. -/
import Derived.Test.YtegnnbhphgeocaaEvCode
import Derived.Orders
namespace Go.Ev
open Go.RowKit

variable {α : Type} {P : Program} {w : World} {F : Fix} {L : LM} {st : St} {a : Act} {r : α}
variable {R : Res → Act → World → Prop} {E : Env α} {o : Oper} {k : St → Option α} {next : Act → World → Prop} {Q : Exit → Act → World → Prop}

/-! ### calls that hand back no block -/
theorem impCells_scal : ∀ {l : List D} {xs : List AV} {i : Imp} {κ : Imp → List AV → Option α}, scalAVs l = some xs → impCells i l κ = κ i xs
  | [], xs, i, κ, h => by
    simp only [scalAVs, Option.some.injEq] at h
    subst h
    rfl
  | d :: l, xs, i, κ, h => by
    simp only [scalAVs, Option.bind_eq_some_iff, Option.map_eq_some_iff] at h
    obtain ⟨x, hx, ys, hy, rfl⟩ := h
    have hc : ∀ κ' : Imp → AV → Option α, impCell i d κ' = κ' i x := fun κ' => by
      cases d <;> simp_all [scalarAV, impCell]
    simp only [impCells, hc]
    exact impCells_scal hy

theorem imps_scal : ∀ {rs : List D} {xs : List AV} {s : St} {avs acc : List AV} {n : Nat} {κ : Imp → Option α}, scalRs avs rs = some xs → imps ⟨s, avs, acc, n⟩ rs κ = κ ⟨s, avs, acc ++ xs, n⟩
  | [], xs, s, avs, acc, n, κ, h => by
    simp only [scalRs, Option.some.injEq] at h
    subst h
    simp [imps]
  | d :: rs, xs, s, avs, acc, n, κ, h => by
    simp only [scalRs, Option.bind_eq_some_iff, Option.map_eq_some_iff] at h
    obtain ⟨x, hx, ys, hy, rfl⟩ := h
    have hc : ∀ κ' : Imp → AV → Option α, imp ⟨s, avs, acc, n⟩ d κ' = κ' ⟨s, avs, acc, n⟩ x := fun κ' => by
      cases d with
      | agg l =>
        simp only [scalR, Option.map_eq_some_iff] at hx
        obtain ⟨zs, hz, rfl⟩ := hx
        simp only [imp, impCells_scal hz]
      | same j =>
        simp only [scalR] at hx
        simp [imp, hx]
      | _ => simp_all [scalR, scalarAV, imp, impCell]
    simp only [imps, hc]
    rw [imps_scal hy]
    simp

theorem evCallQ_ok (hE : EnvOK F E R) {c : Call} (hop : o.op = .call c) {f : Operand} (hcal : c.callee = .value f) (h : RelL F L st a w) (hg : Goes F k r next)
    (hk : evCallQ E o.dst (st.get f) (c.args.toList.map st.get) st k = some r) : o.wp E.P a w next Q := by
  unfold evCallQ at hk
  rw [Option.bind_eq_some_iff] at hk
  obtain ⟨⟨g, ds, avs⟩, hp, hk⟩ := hk
  unfold prepQ at hp
  split at hp
  · rename_i g' caps hf
    rw [Option.bind_eq_some_iff] at hp
    obtain ⟨ids, hids, hp⟩ := hp
    match ids, hids, hp with
    | [], hids, hp =>
      simp only at hp
      obtain ⟨hle, hp⟩ := ifB0 hp
      rw [Option.map_eq_some_iff] at hp
      obtain ⟨ds', hds, hp⟩ := hp
      simp only [Prod.mk.injEq] at hp
      obtain ⟨rfl, rfl, rfl⟩ := hp
      refine ok_call_core hE.hC hop hcal h hE.low hg hf hids rfl hds hk fun res hres => ?_
      rw [Option.bind_eq_some_iff] at hres
      obtain ⟨x, hx, hres⟩ := hres
      unfold postQ at hx
      split at hx
      · rename_i ho
        rw [Option.map_eq_some_iff] at hx
        obtain ⟨xs, hxs, rfl⟩ := hx
        rw [ho]
        simp only [Go.Ev.back, Option.bind_some, newId, hle, cond_true]
        rw [imps_scal hxs]
        simpa using hres
      · simp at hx
    | _ :: _, _, hp => simp at hp
  · simp at hp

theorem evOpQ_ok (hE : EnvOK F E R) (h : RelL F L st a w) (hg : Goes F k r next) (hk : evOpQ E o st k = some r) : o.wp E.P a w next Q := by
  unfold evOpQ at hk
  split at hk
  · rename_i c hop
    split at hk
    · rename_i f hcal
      exact evCallQ_ok hE hop hcal h hg hk
    · exact evOp_ok hE h hg hk
  · exact evOp_ok hE h hg hk

/-! ### what reads alone -/
theorem cond_bind' {β γ : Type} (c : Bool) (x y : Option β) (f : β → Option γ) : (bif c then x else y).bind f = bif c then x.bind f else y.bind f := by cases c <;> rfl

theorem get_put {x : Operand} {d : Nat} {v : AV} (h : d ∉ tmpsIn [x]) : (st.put (some d) v).get x = st.get x := by
  cases x with
  | tmp t =>
    simp only [tmpsIn, List.mem_singleton] at h
    simp only [St.get, St.put, List.getD_eq_getElem?_getD, List.getElem?_set_ne h]
  | _ => rfl

theorem evBin_bind {β : Type} {eqs : TypeId → Nat → Bool} {t : TypeId} {op : BinOp} {x y : AV} {κ : AV → Option β} : evBin P eqs t op x y κ = (evBin P eqs t op x y some).bind κ := by
  unfold evBin
  split <;> try rfl
  all_goals first
    | (rw [cond_bind']; rfl)
    | (split <;> first
        | rfl
        | (split <;> first
            | rfl
            | (rw [cond_bind']; rfl)))
    | (rw [cond_bind', Option.bind_assoc]; rfl)

theorem readRows_bind {β : Type} {l : List β} : ∀ {n i : Nat} {γ : Type} {κ : List β → Option γ}, readRows l i n κ = (readRows l i n some).bind κ
  | 0, i, γ, κ => rfl
  | n + 1, i, γ, κ => by
    simp only [readRows]
    cases l[i]? with
    | none => rfl
    | some x =>
      simp only [Option.bind_some]
      rw [readRows_bind (n := n) (κ := fun r => κ (x :: r)), readRows_bind (n := n) (κ := fun r => some (x :: r)), Option.bind_assoc]
      rfl

theorem read_bind {γ : Type} {b : Blk} {row col n : Nat} {κ : List AV → Option γ} : b.read row col n κ = (b.read row col n some).bind κ := by
  cases b with
  | mix m e l =>
    simp only [Blk.read]
    rw [cond_bind']
    rfl
  | rows m e t l =>
    simp only [Blk.read]
    rw [cond_bind', cond_bind', cond_bind']
    rw [readRows_bind (κ := fun xs => κ (xs.flatMap t.enc)), readRows_bind (κ := fun xs => some (xs.flatMap t.enc)), Option.bind_assoc]
    cases l[row]? <;> rfl

theorem foldMM_bind {γ : Type} {f : Int → Int → Int} {ka : IntKind} : ∀ {l : List AV} {x : Int} {κ : AV → Option γ}, foldMM f ka x l κ = (foldMM f ka x l some).bind κ
  | [], x, κ => rfl
  | y :: l, x, κ => by
    cases y with
    | int kb n =>
      simp only [foldMM]
      split
      · exact foldMM_bind
      · rfl
    | _ => rfl

theorem oneOf_bind {γ : Type} {cs : List AV} {κ : AV → Option γ} : oneOf cs κ = (oneOf cs some).bind κ := by
  unfold oneOf
  split <;> rfl

theorem bcong {β γ : Type} {x : Option β} {f g : β → Option γ} (h : ∀ b, f b = g b) : x.bind f = x.bind g := by
  cases x with
  | none => rfl
  | some b => exact h b

theorem look_upd_ne {j id : Nat} {b' : Blk} (hne : j ≠ id) : ∀ {h : Heap}, look (upd h id b') j = look h j
  | [] => by
    have : Nat.beq id j = false := by
      cases hb : Nat.beq id j with
      | false => rfl
      | true => exact absurd (beq_t hb).symm hne
    simp [upd, look, this]
  | (i, c) :: r => by
    simp only [upd]
    cases hb : Nat.beq i id with
    | true =>
      have := beq_t hb
      subst this
      have hf : Nat.beq i j = false := by
        cases hb : Nat.beq i j with
        | false => rfl
        | true => exact absurd (beq_t hb).symm hne
      simp [look, hf]
    | false =>
      simp only [cond_false, look]
      cases Nat.beq i j with
      | true => rfl
      | false => simp only [cond_false]; exact look_upd_ne hne

theorem writeRows_bind {γ : Type} {t : Ty} : ∀ {vs : List AV} {l : List t.den} {i : Nat} {κ : List t.den → Option γ}, writeRows t l i vs κ = (writeRows t l i vs some).bind κ
  | [], l, i, κ => rfl
  | v :: vs, l, i, κ => by
    simp only [writeRows]
    cases l[i]? with
    | none => rfl
    | some _ =>
      simp only [Option.bind_some]
      cases t.dec [v] with
      | none => rfl
      | some x => simp only [Option.bind_some]; exact writeRows_bind

theorem write_bind {γ : Type} {b : Blk} {row col : Nat} {vs : List AV} {κ : Blk → Option γ} : b.write row col vs κ = (b.write row col vs some).bind κ := by
  unfold Blk.write
  rw [cond_bind']
  cases b with
  | mix m e l =>
    simp only
    rw [cond_bind']
    rfl
  | rows m e t l =>
    simp only
    rw [cond_bind', cond_bind', cond_bind']
    rw [writeRows_bind (κ := fun l' => κ (Blk.rows m e t l')), writeRows_bind (κ := fun l' => some (Blk.rows m e t l')), Option.bind_assoc]
    cases l[row]? with
    | none => rfl
    | some x => simp only [Option.bind_some]; cases t.dec (setAll (t.enc x) col vs) <;> rfl

/-- What reads alone: a value of the state, and of no more than the operands and the blocks. -/
theorem val_form (E : Env α) (o : Oper) (h : isVal o.op = true) : ∃ y : St → Option AV, (∀ st k, evOp E o st k = (y st).bind fun x => k (st.put o.dst x)) ∧ (∀ st d x, d ∉ tmpsIn o.op.operands.toList → y (st.put (some d) x) = y st) ∧ (memFree o.op = true → ∀ (st : St) (h : Heap), y ⟨st.slots, h⟩ = y st) ∧
    ∀ l, loadChk o.op l = true → ∀ (st : St) (id : Nat) (b' : Blk), (∀ s ∈ l, ∃ j r c, st.slots.getD s .undef = .ptr j r c ∧ j ≠ id) → y ⟨st.slots, upd st.heap id b'⟩ = y st := by
  have g1 : ∀ {st : St} {d : Nat} {v : AV} {x : Operand} {l : List Operand}, d ∉ tmpsIn l → x ∈ l → (st.put (some d) v).get x = st.get x := by
    intro st d v x l hd hx
    refine get_put fun hm => hd ?_
    clear hd
    induction l with
    | nil => simp at hx
    | cons y r ih =>
      rcases List.mem_cons.1 hx with rfl | hx
      · cases x with
        | tmp t => simp only [tmpsIn, List.mem_singleton] at hm ⊢; simp [hm]
        | _ => simp [tmpsIn] at hm
      · have := ih hx
        cases y with
        | tmp t => simp only [tmpsIn, List.mem_cons]; exact .inr this
        | _ => simpa only [tmpsIn] using this
  have hh : ∀ {st : St} {d : Nat} {v : AV}, (st.put (some d) v).heap = st.heap := fun {_ _ _} => rfl
  cases hop : o.op <;> rw [hop] at h <;> simp only [isVal] at h <;> try (cases h; done)
  case move x =>
    refine ⟨fun st => some (st.get x), fun st k => by simp only [evOp, hop]; rfl, fun st d v hd => ?_, fun hm st h => ?_, fun l hl st id b' hs => ?_⟩
    simp only [Op.operands] at hd
    simp only [g1 (x := x) hd (by simp)]
    · first
        | rfl
        | (simp [memFree] at hm; done)
        | (simp [memFree, *] at hm; done)
    · simp [loadChk] at hl
  case assign x =>
    refine ⟨fun st => some (st.get x), fun st k => by simp only [evOp, hop]; rfl, fun st d v hd => ?_, fun hm st h => ?_, fun l hl st id b' hs => ?_⟩
    simp only [Op.operands] at hd
    simp only [g1 (x := x) hd (by simp)]
    · first
        | rfl
        | (simp [memFree] at hm; done)
        | (simp [memFree, *] at hm; done)
    · simp [loadChk] at hl
  case load t x =>
    refine ⟨fun st => match st.get x with
      | .ptr id r c => (look st.heap id).bind fun b => (sizeT E.P t).bind fun n => (aggT E.P t).bind fun ag => b.read r c n fun cs => bif ag then some (.agg cs) else oneOf cs some
      | _ => none, fun st k => ?_, fun st d v hd => ?_, fun hm st h => ?_, fun l hl st id b' hs => ?_⟩
    · simp only [evOp, hop]
      cases hx : st.get x with
      | ptr id r c =>
        simp only [Option.bind_assoc]
        refine bcong fun b => bcong fun n => bcong fun ag => ?_
        rw [read_bind, read_bind (κ := fun cs => bif ag then some (.agg cs) else oneOf cs some), Option.bind_assoc]
        refine bcong fun cs => ?_
        rw [cond_bind', oneOf_bind]
        rfl
      | _ => rfl
    · simp only [Op.operands] at hd
      simp only [g1 (x := x) hd (by simp), hh]
    · simp [memFree] at hm
    · cases x with
      | tmp s =>
        obtain ⟨j, r, c, he, hne⟩ := hs s (memN_iff.1 hl)
        show (match st.slots.getD s .undef with
          | .ptr id r c => _
          | _ => none) = (match st.slots.getD s .undef with
          | .ptr id r c => _
          | _ => none)
        rw [he]
        simp only
        rw [look_upd_ne hne]
      | _ => simp [loadChk] at hl
  case binOp op t x y t2 =>
    refine ⟨fun st => evBin E.P E.eqs t op (st.get x) (st.get y) some, fun st k => ?_, fun st d v hd => ?_, fun hm st h => ?_, fun l hl st id b' hs => ?_⟩
    · simp only [evOp, hop]
      rw [evBin_bind]
    · simp only [Op.operands] at hd
      simp only [g1 (x := x) hd (by simp), g1 (x := y) hd (by simp)]
    · first
        | rfl
        | (simp [memFree] at hm; done)
        | (simp [memFree, *] at hm; done)
    · simp [loadChk] at hl
  case pick c x y =>
    refine ⟨fun st => match st.get c with
      | .bool t => bif t then some (st.get x) else some (st.get y)
      | _ => none, fun st k => ?_, fun st d v hd => ?_, fun hm st h => ?_, fun l hl st id b' hs => ?_⟩
    · simp only [evOp, hop]
      cases st.get c with
      | bool t => cases t <;> rfl
      | _ => rfl
    · simp only [Op.operands] at hd
      simp only [g1 (x := c) hd (by simp), g1 (x := x) hd (by simp), g1 (x := y) hd (by simp)]
    · first
        | rfl
        | (simp [memFree] at hm; done)
        | (simp [memFree, *] at hm; done)
    · simp [loadChk] at hl
  case unOp op t x =>
    refine ⟨fun st => evUn op (st.get x) some, fun st k => ?_, fun st d v hd => ?_, fun hm st h => ?_, fun l hl st id b' hs => ?_⟩
    · simp only [evOp, hop]
      unfold evUn
      split <;> rfl
    · simp only [Op.operands] at hd
      simp only [g1 (x := x) hd (by simp)]
    · first
        | rfl
        | (simp [memFree] at hm; done)
        | (simp [memFree, *] at hm; done)
    · simp [loadChk] at hl
  case convert s t x =>
    refine ⟨fun st => match E.P.underlying s, E.P.underlying t, st.get x with
      | some _, some (.int k), .int _ n => some (.int k (k.wrap n))
      | some _, some .string, .str s => some (.str s)
      | _, _, _ => none, fun st k => ?_, fun st d v hd => ?_, fun hm st h => ?_, fun l hl st id b' hs => ?_⟩
    · simp only [evOp, hop]
      cases E.P.underlying s with
      | none => rfl
      | some sd =>
        cases E.P.underlying t with
        | none => rfl
        | some td => cases td <;> cases st.get x <;> rfl
    · simp only [Op.operands] at hd
      simp only [g1 (x := x) hd (by simp)]
    · first
        | rfl
        | (simp [memFree] at hm; done)
        | (simp [memFree, *] at hm; done)
    · simp [loadChk] at hl
  case fieldAddr s x f =>
    refine ⟨fun st => match E.P.underlying s, st.get x with
      | some (.struct fs), .ptr id r c => (fs[f]?).bind fun fd => (sizeT E.P fd.type).bind fun n => bif Nat.beq n 0 then none else (look st.heap id).bind fun b =>
        bif Nat.beq b.w 1 then some (.ptr id (moved r fd.offset 1) c) else some (.ptr id r (moved c fd.offset 1))
      | _, _ => none, fun st k => ?_, fun st d v hd => ?_, fun hm st h => ?_, fun l hl st id b' hs => ?_⟩
    · simp only [evOp, hop]
      cases E.P.underlying s with
      | none => rfl
      | some td =>
        cases td with
        | struct fs =>
          cases hx : st.get x with
          | ptr id r c =>
            simp only [Option.bind_assoc]
            refine bcong fun fd => bcong fun n => ?_
            rw [cond_bind']
            cases Nat.beq n 0 with
            | true => rfl
            | false =>
              simp only [cond_false, Option.bind_assoc]
              refine bcong fun b => ?_
              rw [cond_bind']
              rfl
          | _ => rfl
        | _ => rfl
    · simp only [Op.operands] at hd
      simp only [g1 (x := x) hd (by simp), hh]
    · first
        | rfl
        | (simp [memFree] at hm; done)
        | (simp [memFree, *] at hm; done)
    · simp [loadChk] at hl
  case field t x f =>
    refine ⟨fun st => match E.P.underlying t, st.get x with
      | some (.struct fs), .agg l => (fs[f]?).bind fun fd => (sizeT E.P fd.type).bind fun n => (aggT E.P fd.type).bind fun ag =>
        bif ag then some (.agg ((l.drop fd.offset).take n)) else l[fd.offset]?
      | _, _ => none, fun st k => ?_, fun st d v hd => ?_, fun hm st h => ?_, fun l hl st id b' hs => ?_⟩
    · simp only [evOp, hop]
      cases E.P.underlying t with
      | none => rfl
      | some td =>
        cases td with
        | struct fs =>
          cases hx : st.get x with
          | agg l =>
            simp only [Option.bind_assoc]
            refine bcong fun fd => bcong fun n => bcong fun ag => ?_
            rw [cond_bind']
            rfl
          | _ => rfl
        | _ => rfl
    · simp only [Op.operands] at hd
      simp only [g1 (x := x) hd (by simp)]
    · first
        | rfl
        | (simp [memFree] at hm; done)
        | (simp [memFree, *] at hm; done)
    · simp [loadChk] at hl
  case extract x i =>
    refine ⟨fun st => match st.get x with
      | .tup l => l[i]?
      | _ => none, fun st k => ?_, fun st d v hd => ?_, fun hm st h => ?_, fun l hl st id b' hs => ?_⟩
    · simp only [evOp, hop]
      cases hx : st.get x <;> rfl
    · simp only [Op.operands] at hd
      simp only [g1 (x := x) hd (by simp)]
    · first
        | rfl
        | (simp [memFree] at hm; done)
        | (simp [memFree, *] at hm; done)
    · simp [loadChk] at hl
  case indexAddr t x i =>
    refine ⟨fun st => match E.P.underlying t, st.get x, st.get i with
      | some (.array len e), .ptr id r c, .int _ n => (sizeT E.P e).bind fun s => (look st.heap id).bind fun b =>
        bif decide (0 ≤ n) && decide (n < (len : Int)) then bif Nat.beq b.w 1 then some (.ptr id (moved r n.toNat s) c) else some (.ptr id r (moved c n.toNat s))
        else none
      | some (.slice e), .sl id, .int _ n => (sizeT E.P e).bind fun s => (look st.heap id).bind fun b =>
        bif Nat.beq s b.w then bif decide (0 ≤ n) && decide (n < (b.n : Int)) then some (.ptr id n.toNat 0) else none else none
      | some (.slice e), .sub id lo m, .int _ n => (sizeT E.P e).bind fun s => (look st.heap id).bind fun b =>
        bif Nat.beq s b.w then bif decide (0 ≤ n) && decide (n < (m : Int)) then some (.ptr id (moved lo n.toNat 1) 0) else none else none
      | _, _, _ => none, fun st k => ?_, fun st d v hd => ?_, fun hm st h => ?_, fun l hl st id b' hs => ?_⟩
    · simp only [evOp, hop]
      split
      · rename_i h1 h2 h3
        simp only [h1, h2, h3, Option.bind_assoc]
        refine bcong fun s => bcong fun b => ?_
        simp only [cond_bind', Option.bind_some, Option.bind_none]
      · rename_i h1 h2 h3
        simp only [h1, h2, h3, Option.bind_assoc]
        refine bcong fun s => bcong fun b => ?_
        simp only [cond_bind', Option.bind_some, Option.bind_none]
      · rename_i h1 h2 h3
        simp only [h1, h2, h3, Option.bind_assoc]
        refine bcong fun s => bcong fun b => ?_
        simp only [cond_bind', Option.bind_some, Option.bind_none]
      · rename_i h1 h2 h3
        split
        · rename_i e1 e2 e3; exact absurd e3 (h1 _ _ _ _ _ _ _ e1 e2)
        · rename_i e1 e2 e3; exact absurd e3 (h2 _ _ _ _ e1 e2)
        · rename_i e1 e2 e3; exact absurd e3 (h3 _ _ _ _ _ _ e1 e2)
        · rfl
    · simp only [Op.operands] at hd
      simp only [g1 (x := x) hd (by simp), g1 (x := i) hd (by simp), hh]
    · first
        | rfl
        | (simp [memFree] at hm; done)
        | (simp [memFree, *] at hm; done)
    · simp [loadChk] at hl
  case index t x i =>
    refine ⟨fun st => match E.P.underlying t, st.get x, st.get i with
      | some .string, .str s, .int _ n => bif decide (0 ≤ n) then (s.data.toList[n.toNat]?).bind fun c => some (.int .u8 c.toNat) else none
      | some (.array len e), .agg l, .int _ n => (sizeT E.P e).bind fun s => (aggT E.P e).bind fun ag =>
        bif decide (0 ≤ n) && decide (n < (len : Int)) then bif ag then some (.agg ((l.drop (moved 0 n.toNat s)).take s)) else l[moved 0 n.toNat s]?
        else none
      | _, _, _ => none, fun st k => ?_, fun st d v hd => ?_, fun hm st h => ?_, fun l hl st id b' hs => ?_⟩
    · simp only [evOp, hop]
      split
      · rename_i h1 h2 h3
        simp only [h1, h2, h3, cond_bind', Option.bind_assoc, Option.bind_some, Option.bind_none]
      · rename_i h1 h2 h3
        simp only [h1, h2, h3, Option.bind_assoc]
        refine bcong fun s => bcong fun b => ?_
        simp only [cond_bind', Option.bind_some, Option.bind_none]
      · rename_i h1 h2
        split
        · rename_i e1 e2 e3; exact absurd e3 (h1 _ _ _ e1 e2)
        · rename_i e1 e2 e3; exact absurd e3 (h2 _ _ _ _ _ e1 e2)
        · rfl
    · simp only [Op.operands] at hd
      simp only [g1 (x := x) hd (by simp), g1 (x := i) hd (by simp)]
    · first
        | rfl
        | (simp [memFree] at hm; done)
        | (simp [memFree, *] at hm; done)
    · simp [loadChk] at hl
  case call c =>
    split at h
    · rename_i hcal
      refine ⟨fun st => match c.args.toList.map st.get, c.argTypes.toList with
        | [x], [t] => match E.P.underlying t, x with
          | some (.slice _), .str _ => none
          | some .string, .str s => some (.int .i64 s.size)
          | some (.slice _), x => (lenAV st.heap x).bind fun n => some (.int .i64 n)
          | _, _ => none
        | _, _ => none, fun st k => ?_, fun st d v hd => ?_, fun hm st h => ?_, fun l hl st id b' hs => ?_⟩
      · simp only [evOp, hop, hcal, evBuiltin]
        generalize c.args.toList.map st.get = xs
        match xs with
        | [] => rfl
        | _ :: _ :: _ => rfl
        | [x] =>
          generalize c.argTypes.toList = ts
          match ts with
          | [] => rfl
          | _ :: _ :: _ => rfl
          | [t] =>
            simp only
            cases E.P.underlying t with
            | none => rfl
            | some td => cases td <;> cases x <;> simp only [Option.bind_assoc] <;> rfl
      · have hmap : c.args.toList.map (st.put (some d) v).get = c.args.toList.map st.get := by
          refine List.map_congr_left fun x hx => g1 (l := (Op.call c).operands.toList) hd ?_
          simp [Op.operands, Call.operands, hcal]
          simpa using hx
        simp only [hmap, hh]
      · first
          | rfl
          | (simp [memFree] at hm; done)
          | (simp [memFree, *] at hm; done)
      · simp [loadChk] at hl
    · rename_i hcal
      refine ⟨fun st => match c.args.toList.map st.get with
        | .int ka x :: r => foldMM max ka x r some
        | _ => none, fun st k => ?_, fun st d v hd => ?_, fun hm st h => ?_, fun l hl st id b' hs => ?_⟩
      · simp only [evOp, hop, hcal, evBuiltin]
        generalize c.args.toList.map st.get = xs
        match xs with
        | [] => rfl
        | x :: r =>
          cases x with
          | int ka x => simp only; exact foldMM_bind
          | _ => rfl
      · have hmap : c.args.toList.map (st.put (some d) v).get = c.args.toList.map st.get := by
          refine List.map_congr_left fun x hx => g1 (l := (Op.call c).operands.toList) hd ?_
          simp [Op.operands, Call.operands, hcal]
          simpa using hx
        simp only [hmap]
      · first
          | rfl
          | (simp [memFree] at hm; done)
          | (simp [memFree, *] at hm; done)
      · simp [loadChk] at hl
    · rename_i hcal
      refine ⟨fun st => match c.args.toList.map st.get with
        | .int ka x :: r => foldMM min ka x r some
        | _ => none, fun st k => ?_, fun st d v hd => ?_, fun hm st h => ?_, fun l hl st id b' hs => ?_⟩
      · simp only [evOp, hop, hcal, evBuiltin]
        generalize c.args.toList.map st.get = xs
        match xs with
        | [] => rfl
        | x :: r =>
          cases x with
          | int ka x => simp only; exact foldMM_bind
          | _ => rfl
      · have hmap : c.args.toList.map (st.put (some d) v).get = c.args.toList.map st.get := by
          refine List.map_congr_left fun x hx => g1 (l := (Op.call c).operands.toList) hd ?_
          simp [Op.operands, Call.operands, hcal]
          simpa using hx
        simp only [hmap]
      · first
          | rfl
          | (simp [memFree] at hm; done)
          | (simp [memFree, *] at hm; done)
      · simp [loadChk] at hl
    · cases h

theorem put_comm {d e : Nat} {x y : AV} (h : d ≠ e) : (st.put (some d) x).put (some e) y = (st.put (some e) y).put (some d) x := by
  simp only [St.put]
  rw [List.set_comm _ _ h]

theorem evOpQ_val (h : isVal o.op = true) : evOpQ E o st k = evOp E o st k := by
  unfold evOpQ
  split
  · rename_i c hop
    split
    · rename_i f hcal
      rw [hop] at h
      simp [isVal, hcal] at h
    · rfl
  · rfl

theorem goes_put {ops : Array Oper} {d : Nat} {x : AV} (h : d ∉ guardTmps ops o) : goesQ ops o (st.put (some d) x) = goesQ ops o st := by
  unfold goesQ
  cases hg : o.guard with
  | none => rfl
  | some p =>
    obtain ⟨j, want⟩ := p
    simp only [guardTmps, hg] at h
    have hy : ∀ d', (ops[j]?).bind (·.dst) = some d' → (st.put (some d) x).slots.getD d' .undef = st.slots.getD d' .undef := fun d' hd => by
      rw [hd] at h
      simp only [List.mem_singleton] at h
      simp only [St.put, List.getD_eq_getElem?_getD, List.getElem?_set_ne h]
    simp only [yields, voided]
    cases hd : (ops[j]?).bind (·.dst) with
    | none => rfl
    | some d' => simp only [Option.bind_some, hy d' hd]

/-- What reads alone, with its guard. -/
theorem valG_form (E : Env α) (ops : Array Oper) (o : Oper) (h : isVal o.op = true) : ∃ y : St → Option AV, (∀ st k, evOpG E ops o st k = (y st).bind fun x => k (st.put o.dst x)) ∧ (∀ st d x, d ∉ tmpsIn o.op.operands.toList ++ guardTmps ops o → y (st.put (some d) x) = y st) ∧
    (memFree o.op = true → ∀ (st : St) (h : Heap), y ⟨st.slots, h⟩ = y st) ∧
    ∀ l, loadChk o.op l = true → ∀ (st : St) (id : Nat) (b' : Blk), (∀ s ∈ l, ∃ j r c, st.slots.getD s .undef = .ptr j r c ∧ j ≠ id) → y ⟨st.slots, upd st.heap id b'⟩ = y st := by
  obtain ⟨y0, e0, f0, g0, l0⟩ := val_form E o h
  have gh : ∀ (st : St) (h : Heap), goesQ ops o ⟨st.slots, h⟩ = goesQ ops o st := fun st h => rfl
  refine ⟨fun st => (goesQ ops o st).bind fun g => bif g then y0 st else some (.tup []), fun st k => ?_, fun st d x hd => ?_, fun hm st h => ?_, fun l hl st id b' hs => ?_⟩
  · unfold evOpG
    rw [Option.bind_assoc]
    refine bcong fun g => ?_
    cases g with
    | false => rfl
    | true => simp only [cond_true, evOpQ_val h, e0]
  · simp only [List.mem_append, not_or] at hd
    simp only [goes_put hd.2, f0 _ _ _ hd.1]
  · simp only [gh, g0 hm]
  · simp only [gh, l0 l hl st id b' hs]

/-- Two that may be swapped are swapped. -/
theorem swap_ok {ops : Array Oper} {a b : Oper} (h : swapOK ops a b = true) {st : St} {k : St → Option α} (hk : (evOpG E ops a st fun s => evOpG E ops b s k) = some r) : (evOpG E ops b st fun s => evOpG E ops a s k) = some r := by
  simp only [swapOK, Bool.and_eq_true, Bool.or_eq_true] at h
  obtain ⟨⟨ha, hb⟩, h⟩ := h
  split at h
  · rename_i da db hda hdb
    simp only [Bool.and_eq_true, Bool.not_eq_true'] at h
    have hne := beq_ne h.1
    have h1 := memN_false h.2.1
    have h2 := memN_false h.2.2
    obtain ⟨ya, ea, fa, _, _⟩ := valG_form E ops a ha
    rw [ea, Option.bind_eq_some_iff] at hk
    obtain ⟨xa, hxa, hk⟩ := hk
    rcases hb with hb | hb
    · obtain ⟨yb, eb, fb, _, _⟩ := valG_form E ops b hb
      rw [eb, hda, fb _ _ _ h1, Option.bind_eq_some_iff] at hk
      obtain ⟨xb, hxb, hk⟩ := hk
      rw [eb, hxb, Option.bind_some, ea, hdb, fa _ _ _ h2, hxa, Option.bind_some, hda, ← put_comm hne, ← hdb]
      exact hk
    · simp only [List.mem_append, not_or] at h1
      unfold evOpG at hk ⊢
      rw [hda, goes_put h1.2, Option.bind_eq_some_iff] at hk
      obtain ⟨g, hg, hk⟩ := hk
      rw [hg, Option.bind_some]
      cases g with
      | false =>
        rw [cond_false] at hk ⊢
        show evOpG E ops a _ k = some r
        rw [ea, hdb, fa _ _ _ h2, hxa, Option.bind_some, hda, ← put_comm hne, ← hdb]
        exact hk
      | true =>
        rw [cond_true] at hk ⊢
        unfold isCallV at hb
        split at hb
        · rename_i c hop
          split at hb
          · rename_i f hcal
            have form : ∀ (st : St) (k : St → Option α), evOpQ E b st k = evCallQ E b.dst (st.get f) (c.args.toList.map st.get) st k := fun st k => by
              simp only [evOpQ, hop, hcal]
            have hops : b.op.operands.toList = f :: c.args.toList := by
              rw [hop]; simp [Op.operands, Call.operands, hcal]
            rw [hops] at h1
            have gf : (st.put (some da) xa).get f = st.get f := get_put fun hm => h1.1 (by
              cases f with
              | tmp t => simp only [tmpsIn, List.mem_singleton] at hm; simp [tmpsIn, hm]
              | _ => simp [tmpsIn] at hm)
            have gmap : c.args.toList.map (st.put (some da) xa).get = c.args.toList.map st.get := by
              refine List.map_congr_left fun x hx => get_put fun hm => h1.1 ?_
              have : ∀ l : List Operand, x ∈ l → da ∈ tmpsIn l := by
                intro l
                induction l with
                | nil => intro h; simp at h
                | cons y r ih =>
                  intro h
                  rcases List.mem_cons.1 h with rfl | h
                  · cases x with
                    | tmp t => simp only [tmpsIn, List.mem_singleton] at hm; simp [tmpsIn, hm]
                    | _ => simp [tmpsIn] at hm
                  · have := ih h
                    cases y with
                    | tmp t => simp only [tmpsIn, List.mem_cons]; exact .inr this
                    | _ => simpa only [tmpsIn] using this
              exact this _ (by simp [hx])
            rw [form, gf, gmap] at hk
            rw [form]
            unfold evCallQ at hk ⊢
            have hheap : (st.put (some da) xa).heap = st.heap := rfl
            rw [hheap] at hk
            rw [← hk]
            refine bcong fun p => ?_
            congr 1
            funext res
            refine bcong fun x => ?_
            show evOpG E ops a (st.put b.dst x) k = _
            rw [ea, hdb, fa _ _ _ h2, hxa, Option.bind_some, hda, ← put_comm hne]
          · cases hb
        · cases hb
  · cases h

theorem put_same {d : Nat} {x : AV} (h : st.slots.getD d .undef = x) (hx : x ≠ .undef) : st.put (some d) x = st := by
  simp only [St.put]
  have : st.slots.set d x = st.slots := by
    apply List.ext_getElem? 
    intro i
    rw [List.getElem?_set]
    split
    · rename_i e
      subst e
      rw [List.getD_eq_getElem?_getD] at h
      cases hd : st.slots[d]? with
      | none => rw [hd] at h; exact absurd h.symm hx
      | some y =>
        rw [hd] at h
        simp only [Option.getD_some] at h
        subst h
        have := (List.getElem?_eq_some_iff.1 hd).1
        simp [this]
    · rfl
  rw [this]

theorem evOpL_eq (E : Env α) (ops : Array Oper) (o : Oper) (st : St) (k : St → Option α) : evOpL E ops o st k = evOpG E ops o st k := by
  unfold evOpL evOpG goesQ
  cases hg : o.guard with
  | none => rfl
  | some p =>
    obtain ⟨j, want⟩ := p
    simp only
    cases hy : yields ops j st with
    | none => simp only; cases voided ops j st <;> rfl
    | some q =>
      obtain ⟨d, b⟩ := q
      have hs : st.slots.getD d .undef = .bool b := by
        unfold yields at hy
        rw [Option.bind_eq_some_iff] at hy
        obtain ⟨d', hd', hy⟩ := hy
        split at hy
        · rename_i b' hb
          simp only [Option.some.injEq, Prod.mk.injEq] at hy
          obtain ⟨rfl, rfl⟩ := hy
          exact hb
        · cases hy
      have hp := put_same hs (by intro e; cases e)
      cases b <;> cases want <;> simp [hp]

/-- A step of such a region. -/
def evI (E : Env α) (ops : Array Oper) (i : Nat) (o : Oper) (st : St) (k : St → Option α) : Option α := bif chkQ ops i o st then evOpG E ops o st k else none

theorem evIdx_cons {E : Env α} {ops : Array Oper} {i : Nat} {oi : Oper} (hi : ops[i]? = some oi) {l : List Nat} {st : St} {k : St → Option α} : evIdx E ops (i :: l) st k = evI E ops i oi st fun s => evIdx E ops l s k := by
  simp only [evIdx, hi, evI, evOpL_eq]

theorem chkQ_nostore {ops : Array Oper} {i : Nat} (h : ∀ t a x, o.op ≠ .store t a x) : chkQ ops i o st = true := by
  unfold chkQ
  split
  · rename_i t a x hop
    exact absurd hop (h _ _ _)
  · rfl

theorem chkQ_val {ops : Array Oper} {i : Nat} (h : isVal o.op = true) : chkQ ops i o st = true :=
  chkQ_nostore fun t a x hop => by rw [hop] at h; simp [isVal] at h

theorem others_spec {id : Nat} : ∀ {l : List Nat}, othersQ st id l = true → ∀ s ∈ l, ∃ j r c, st.slots.getD s .undef = .ptr j r c ∧ j ≠ id
  | [], _, s, hs => by simp at hs
  | x :: l, h, s, hs => by
    simp only [othersQ, Bool.and_eq_true] at h
    rcases List.mem_cons.1 hs with rfl | hs
    · have h1 := h.1
      split at h1
      · rename_i j r c he
        exact ⟨j, r, c, he, fun e => by subst e; simp at h1⟩
      · cases h1
    · exact others_spec h.2 s hs

theorem others_put {id d : Nat} {x : AV} : ∀ {l : List Nat}, d ∉ l → othersQ (st.put (some d) x) id l = othersQ st id l
  | [], _ => rfl
  | y :: l, h => by
    simp only [List.mem_cons, not_or] at h
    have e : (st.put (some d) x).slots.getD y .undef = st.slots.getD y .undef := by
      simp only [St.put, List.getD_eq_getElem?_getD, List.getElem?_set_ne h.1]
    simp only [othersQ, e, others_put h.2]

theorem tmps_mem {d : Nat} {x : Operand} : ∀ {l : List Operand}, x ∈ l → d ∈ tmpsIn [x] → d ∈ tmpsIn l
  | [], h, _ => by simp at h
  | y :: l, h, hd => by
    rcases List.mem_cons.1 h with rfl | h
    · cases x with
      | tmp t => simp only [tmpsIn, List.mem_singleton] at hd ⊢; simp [hd]
      | _ => simp [tmpsIn] at hd
    · have := tmps_mem h hd
      cases y with
      | tmp t => simp only [tmpsIn, List.mem_cons]; exact .inr this
      | _ => simpa only [tmpsIn] using this

/-- A value and a write. -/
theorem swap_mem {ops : Array Oper} {i : Nat} {a b : Oper} (ha : isVal a.op = true) (h : swapMem ops a i b = true) {st : St} {k : St → Option α} (hk : (evOpG E ops a st fun s => evI E ops i b s k) = some r) : (evI E ops i b st fun s => evOpG E ops a s k) = some r := by
  unfold swapMem at h
  split at h
  · rename_i t ad v hop
    split at h
    · rename_i da hda hdb
      simp only [Bool.and_eq_true, Bool.not_eq_true', Bool.or_eq_true] at h
      obtain ⟨h1, h2⟩ := h
      have h1 := memN_false h1
      simp only [List.mem_append, not_or] at h1
      obtain ⟨⟨h1, hgt⟩, hch⟩ := h1
      have hops : b.op.operands.toList = [ad, v] := by rw [hop]; simp [Op.operands]
      rw [hops] at h1
      obtain ⟨ya, ea, fa, ga, la⟩ := valG_form E ops a ha
      rw [ea, Option.bind_eq_some_iff] at hk
      obtain ⟨xa, hxa, hk⟩ := hk
      unfold evI at hk ⊢
      have gad : (st.put (some da) xa).get ad = st.get ad := get_put fun hm => h1 (tmps_mem (by simp) hm)
      have gv : (st.put (some da) xa).get v = st.get v := get_put fun hm => h1 (tmps_mem (by simp) hm)
      have hchk : chkQ ops i b (st.put a.dst xa) = chkQ ops i b st := by
        rw [hda]
        simp only [chkQ, hop]
        cases hc : chkSlots ops i with
        | nil => rfl
        | cons s l =>
          simp only [gad]
          rw [hc] at hch
          cases st.get ad with
          | ptr id r c => exact others_put hch
          | _ => rfl
      obtain ⟨hc, hk⟩ := ifB hk
      rw [hchk] at hc
      rw [hc, cond_true]
      unfold evOpG at hk ⊢
      rw [hda, goes_put hgt, Option.bind_eq_some_iff] at hk
      obtain ⟨g, hg, hk⟩ := hk
      rw [hg, Option.bind_some]
      have back : ∀ s : St, ya s = some xa → evOpG E ops a s k = k (s.put a.dst xa) := fun s hs => by rw [ea, hs]; rfl
      cases g with
      | false =>
        rw [cond_false] at hk ⊢
        show evOpG E ops a _ k = some r
        rw [hdb] at hk ⊢
        show evOpG E ops a st k = some r
        rw [back st hxa, hda]
        exact hk
      | true =>
        rw [cond_true] at hk ⊢
        have hq : ∀ (s : St) (κ : St → Option α), evOpQ E b s κ = evOp E b s κ := fun s κ => by simp only [evOpQ, hop]
        rw [hq] at hk ⊢
        simp only [evOp, hop] at hk ⊢
        rw [gad, gv] at hk
        cases had : st.get ad with
        | ptr id row col =>
          rw [had] at hk
          simp only at hk ⊢
          have hheap : (st.put (some da) xa).heap = st.heap := rfl
          rw [hheap, Option.bind_eq_some_iff] at hk
          obtain ⟨bl, hbl, hk⟩ := hk
          rw [Option.bind_eq_some_iff] at hk
          obtain ⟨n, hn, hk⟩ := hk
          obtain ⟨hl, hk⟩ := ifB hk
          rw [write_bind, Option.bind_eq_some_iff] at hk
          obtain ⟨b', hb', hk⟩ := hk
          rw [hbl, Option.bind_some, hn, Option.bind_some, hl, cond_true, write_bind, hb', Option.bind_some]
          show evOpG E ops a _ k = some r
          rw [hdb] at hk ⊢
          have hy : ya ⟨st.slots, upd st.heap id b'⟩ = some xa := by
            rw [← hxa]
            rcases h2 with h2 | h2
            · exact ga h2 st _
            · refine la _ h2 st id b' (others_spec ?_)
              simp only [chkQ, hop] at hc
              cases hcs : chkSlots ops i with
              | nil => rfl
              | cons s l =>
                rw [hcs] at hc
                simp only [had] at hc
                exact hc
          show evOpG E ops a ⟨st.slots, upd st.heap id b'⟩ k = some r
          rw [back _ hy, hda]
          exact hk
        | _ => rw [had] at hk; simp at hk
    · cases h
  · cases h

theorem nostore_of_swap {ops : Array Oper} {a b : Oper} (h : swapOK ops a b = true) : ∀ t x y, b.op ≠ .store t x y := fun t x y hop => by
  simp [swapOK, hop, isVal, isCallV] at h

/-- To the front. -/
theorem front_ok {ops : Array Oper} {i : Nat} {oi : Oper} (hi : ops[i]? = some oi) {post : List Nat} : ∀ {pre : List Nat} {st : St} {k : St → Option α} {r : α}, (∀ j ∈ pre, ∃ oj, ops[j]? = some oj ∧ isVal oj.op = true ∧ (swapOK ops oj oi || swapMem ops oj i oi) = true) → evIdx E ops (pre ++ i :: post) st k = some r → (evI E ops i oi st fun s => evIdx E ops (pre ++ post) s k) = some r
  | [], st, k, r, _, hk => by
    rw [List.nil_append, evIdx_cons hi] at hk
    exact hk
  | j :: pre, st, k, r, hp, hk => by
    obtain ⟨oj, hj, hv, hs⟩ := hp j (by simp)
    rw [List.cons_append, evIdx_cons hj, evI, chkQ_val hv, cond_true] at hk
    obtain ⟨yj, ej, _⟩ := valG_form E ops oj hv
    have hk2 : (evOpG E ops oj st fun s => evI E ops i oi s fun s => evIdx E ops (pre ++ post) s k) = some r := by
      rw [ej, Option.bind_eq_some_iff] at hk ⊢
      obtain ⟨x, hx, hk⟩ := hk
      exact ⟨x, hx, front_ok hi (fun j hj => hp j (by simp [hj])) hk⟩
    have e : ∀ s : St, evIdx E ops (j :: pre ++ post) s k = evOpG E ops oj s fun s => evIdx E ops (pre ++ post) s k := fun s => by
      rw [List.cons_append, evIdx_cons hj, evI, chkQ_val hv, cond_true]
    simp only [e]
    rw [Bool.or_eq_true] at hs
    rcases hs with hs | hs
    · simp only [evI, chkQ_nostore (nostore_of_swap hs), cond_true] at hk2 ⊢
      exact swap_ok hs hk2
    · exact swap_mem hv hs hk2

theorem voidV (L : LM) : V L (.tup []) undef := ⟨#[], rfl, by simp [VAll]⟩

/-- Whether it goes, in the model. -/
theorem goes_wanted {ops : Array Oper} (h : RelL F L st a w) {g : Bool} (hg : goesQ ops o st = some g) : Region.wanted o (yielded ops a.tmps) = g := by
  unfold goesQ at hg
  split at hg
  · rename_i hgd
    have := Option.some.inj hg
    subst this
    simp [Region.wanted, hgd]
  · rename_i j want hgd
    split at hg
    · rename_i d b hy
      have hg' := Option.some.inj hg
      subst hg'
      have hyy : yielded ops a.tmps j = some b := by
        unfold yields at hy
        rw [Option.bind_eq_some_iff] at hy
        obtain ⟨d', hd', hy⟩ := hy
        split at hy
        · rename_i b' hs
          simp only [Option.some.injEq, Prod.mk.injEq] at hy
          obtain ⟨rfl, rfl⟩ := hy
          have hx := h.get (.tmp d')
          simp only [St.get, hs, V, Act.eval] at hx
          unfold yielded
          rw [hd']
          simp only [Option.bind_some]
          rw [Array.getD_eq_getD_getElem?] at hx
          cases hx' : a.tmps[d']? with
          | none => simp [hx', undef] at hx
          | some y => simp [hx'] at hx; rw [hx]
        · simp at hy
      cases b <;> cases want <;> simp [Region.wanted, hgd, hyy]
    · obtain ⟨hv, hg⟩ := ifB hg
      have hg' := Option.some.inj hg
      subst hg'
      have hno : yielded ops a.tmps j = none := by
        unfold voided at hv
        unfold yielded
        split at hv
        · rename_i d hd
          rw [hd]
          simp only [Option.bind_some]
          split at hv
          · rename_i l hs
            split at hv
            · have hx := h.get (.tmp d)
              simp only [St.get, hs, V, Act.eval] at hx
              obtain ⟨arr, he, _⟩ := hx
              rw [Array.getD_eq_getD_getElem?] at he
              cases hx : a.tmps[d]? with
              | none => rfl
              | some y =>
                rw [hx] at he
                simp only [Option.getD_some] at he
                rw [he]
            · cases hv
          · cases hv
        · cases hv
      simp [Region.wanted, hgd, hno]

/-! ### orders -/
def Closed (ops : Array Oper) (S : Nat → Prop) : Prop := ∀ m om, S m → ops[m]? = some om → ∀ e ∈ depsOf om.after.toList, S e

theorem joinN_mem {l : List Nat} : ∀ {as : List Nat} {x : Nat}, x ∈ joinN as l ↔ x ∈ as ∨ x ∈ l := by
  intro as
  induction as generalizing l with
  | nil => intro x; simp [joinN]
  | cons a r ih =>
    intro x
    simp only [joinN]
    cases h : memN a l with
    | true =>
      have := memN_iff.1 h
      rw [cond_true, ih]
      constructor
      · rintro (h | h) <;> simp [h]
      · rintro (h | h)
        · rcases List.mem_cons.1 h with rfl | h
          · exact .inr this
          · exact .inl h
        · exact .inr h
    | false =>
      rw [cond_false, ih]
      simp only [List.mem_cons]
      constructor
      · rintro (h | h | h) <;> simp [h]
      · rintro ((h | h) | h) <;> simp [h]

theorem waitsFor_spec {ops : Array Oper} {t : List (Nat × List Nat)} (ht : ∀ m x, x ∈ lookA t m → ∀ S, Closed ops S → S m → S x) : ∀ {ds : List Nat} {x : Nat}, x ∈ waitsFor t ds → ∀ S, Closed ops S → (∀ e ∈ ds, S e) → S x
  | [], x, h, _, _, _ => by simp [waitsFor] at h
  | e :: r, x, h, S, hS, hd => by
    simp only [waitsFor, joinN_mem, List.mem_cons] at h
    rcases h with (rfl | h) | h
    · exact hd _ (by simp)
    · exact ht e x h S hS (hd e (by simp))
    · exact waitsFor_spec ht h S hS fun e he => hd e (by simp [he])

/-- What is known of an operation in such an order; 'a': those ahead of it. -/
structure OrdAt (ops : Array Oper) (a : List Nat) (i : Nat) : Prop where
  ex : ∃ o, ops[i]? = some o ∧ (∀ e ∈ depsOf o.after.toList, e ∈ a) ∧ i ∉ a ∧
    ∀ j ∈ a, (∀ S, Closed ops S → (∀ e ∈ depsOf o.after.toList, S e) → S j) ∨ ∃ oj, ops[j]? = some oj ∧ isVal oj.op = true ∧ (swapOK ops oj o || swapMem ops oj i o) = true

theorem swapMem_val {ops : Array Oper} {i : Nat} {a b : Oper} (h : swapMem ops a i b = true) : isVal a.op = true := by
  unfold swapMem at h
  split at h
  · split at h
    · simp only [Bool.and_eq_true, Bool.or_eq_true] at h
      rcases h.2 with h | h
      · generalize a.op = op at h
        cases op <;> simp [memFree] at h <;> simp [isVal]
        split at h <;> simp_all
      · generalize a.op = op at h
        cases op <;> simp [loadChk] at h
        rfl
    · cases h
  · cases h

theorem subN_mem {l m : List Nat} (h : subN l m = true) : ∀ x ∈ l, x ∈ m := by
  induction l with
  | nil => simp
  | cons a r ih =>
    simp only [subN, Bool.and_eq_true] at h
    intro x hx
    rcases List.mem_cons.1 hx with rfl | hx
    · exact memN_iff.1 h.1
    · exact ih h.2 x hx

theorem pairsOK_spec {ops : Array Oper} {i : Nat} {o : Oper} {w : List Nat} : ∀ {done : List Nat}, ordFrom.pairsOK ops i o w done = true → ∀ j ∈ done, j ∈ w ∨ ∃ oj, ops[j]? = some oj ∧ isVal oj.op = true ∧ (swapOK ops oj o || swapMem ops oj i o) = true
  | [], _, j, h => by simp at h
  | x :: r, h, j, hj => by
    simp only [ordFrom.pairsOK, Bool.and_eq_true, Bool.or_eq_true] at h
    rcases List.mem_cons.1 hj with rfl | hj
    · rcases h.1 with h1 | h1
      · exact .inl (memN_iff.1 h1)
      · split at h1
        · rename_i oj ho
          refine .inr ⟨oj, ho, ?_, h1⟩
          rcases Bool.or_eq_true _ _ ▸ h1 with h2 | h2
          · simp only [swapOK, Bool.and_eq_true] at h2
            exact h2.1.1
          · exact swapMem_val h2
        · cases h1
    · exact pairsOK_spec h.2 j hj

theorem allIn_spec {l : List Nat} : ∀ {n : Nat}, ordFrom.allIn n l = true → ∀ m < n, m ∈ l
  | 0, _, m, h => by omega
  | n + 1, h, m, hm => by
    simp only [ordFrom.allIn, Bool.and_eq_true] at h
    by_cases e : m = n
    · subst e; exact memN_iff.1 h.1
    · exact allIn_spec h.2 m (by omega)

theorem ord_spec {ops : Array Oper} : ∀ {l : List Nat} {t : List (Nat × List Nat)} {done : List Nat}, ordFrom ops l t done = true → (∀ m x, x ∈ lookA t m → ∀ S, Closed ops S → S m → S x) →
    (∀ a i b, l = a ++ i :: b → OrdAt ops (a.reverse ++ done) i) ∧ ∀ m < ops.size, m ∈ done ∨ m ∈ l
  | [], t, done, h, _ => by
    simp only [ordFrom] at h
    exact ⟨fun a i b e => by simp at e, fun m hm => .inl (allIn_spec h m hm)⟩
  | i :: l, t, done, h, ht => by
    simp only [ordFrom] at h
    split at h
    · rename_i o ho
      simp only [Bool.and_eq_true] at h
      obtain ⟨hr, hp, h⟩ := h
      simp only [readyQ, ho, Bool.and_eq_true, Bool.not_eq_true'] at hr
      have hnot := memN_false hr.1
      have hdeps := subN_mem hr.2
      obtain ⟨k1, k2⟩ := ord_spec h (fun m x hx S hS hm => by
        simp only [lookA] at hx
        cases hb : Nat.beq i m with
        | true =>
          rw [hb, cond_true] at hx
          have := beq_t hb
          subst this
          exact waitsFor_spec ht hx S hS (hS i o hm ho)
        | false =>
          rw [hb, cond_false] at hx
          exact ht m x hx S hS hm)
      refine ⟨fun a j b e => ?_, fun m hm => ?_⟩
      · cases a with
        | nil =>
          simp only [List.nil_append, List.cons.injEq] at e
          obtain ⟨rfl, rfl⟩ := e
          refine ⟨o, ho, by simpa using hdeps, by simpa using hnot, fun j hj => ?_⟩
          rcases pairsOK_spec hp j (by simpa using hj) with h1 | h1
          · exact .inl fun S hS hd => waitsFor_spec ht h1 S hS hd
          · exact .inr h1
        | cons x a =>
          simp only [List.cons_append, List.cons.injEq] at e
          obtain ⟨rfl, e⟩ := e
          have := k1 a j b e
          simpa [List.append_assoc] using this
      · rcases k2 m hm with h1 | h1
        · rcases List.mem_cons.1 h1 with rfl | h1
          · exact .inr (by simp)
          · exact .inl h1
        · exact .inr (by simp [h1])
    · cases h

theorem cons_sub {i : Nat} {l σ : List Nat} (h : (i :: l).Sublist σ) : ∃ a b, σ = a ++ i :: b ∧ l.Sublist b := by
  induction σ with
  | nil => cases h
  | cons x σ ih =>
    cases h with
    | cons _ h =>
      obtain ⟨a, b, e, h2⟩ := ih h
      exact ⟨x :: a, b, by rw [e]; rfl, h2⟩
    | cons_cons _ h => exact ⟨[], σ, rfl, h⟩

theorem mem_of_ord {ops : Array Oper} {σ : List Nat} (hσ : ∀ a i b, σ = a ++ i :: b → OrdAt ops a.reverse i) : σ.Nodup ∧ ∀ i ∈ σ, i < ops.size := by
  constructor
  · have key : ∀ (b a : List Nat), σ = a ++ b → b.Nodup ∧ ∀ x ∈ b, x ∉ a := by
      intro b
      induction b with
      | nil => intro a _; exact ⟨List.nodup_nil, by simp⟩
      | cons i b ih =>
        intro a e
        obtain ⟨n1, n2⟩ := ih (a ++ [i]) (by rw [e]; simp)
        obtain ⟨o, _, _, hn, _⟩ := (hσ a i b e).ex
        refine ⟨List.nodup_cons.2 ⟨fun h => n2 i h (by simp), n1⟩, fun x hx => ?_⟩
        rcases List.mem_cons.1 hx with rfl | hx
        · simpa using hn
        · intro h
          exact n2 x hx (by simp [h])
    exact (key σ [] rfl).1
  · intro i hi
    obtain ⟨a, b, e⟩ := List.append_of_mem hi
    obtain ⟨o, ho, _⟩ := (hσ a i b e).ex
    exact (Array.getElem?_eq_some_iff.1 ho).1

theorem draw_any (hE : EnvOK F E R) {ops : Array Oper} {σ : List Nat} (hσ : ∀ a i b, σ = a ++ i :: b → OrdAt ops a.reverse i) {k : St → Option α} {r : α} (hQ : ∀ st a w, k st = some r → Rel F st a w → Q .normal a w) :
    ∀ (n : Nat) {l : List Nat} {listed : Array Bool} {st : St} {a : Act} {w : World}, l.length ≤ n → l.Sublist σ → (∀ m, listed.getD m true = false ↔ m ∈ l) → listed.size = ops.size → Closed ops (fun m => listed.getD m false = true) →
      evIdx E ops l st k = some r → Rel F st a w → wpAny E.P .any ops Q n listed a w := by
  obtain ⟨hnd, hlt⟩ := mem_of_ord hσ
  have ready_l : ∀ {l : List Nat} {listed : Array Bool}, (∀ m, listed.getD m true = false ↔ m ∈ l) → ∀ i ∈ Region.ready .any ops listed, i ∈ l := fun h i hi => (h i).1 (mem_ready.1 hi).1
  have depmem : ∀ (es : List Edge) (e : Edge), e ∈ es → Region.binds .any e = true → e.on ∈ depsOf es := by
    intro es
    induction es with
    | nil => intro e he; simp at he
    | cons x r ih =>
      intro e he hb
      simp only [depsOf]
      rcases List.mem_cons.1 he with rfl | he
      · rw [hb, cond_true]; simp
      · cases Region.binds .any x with
        | true => rw [cond_true]; exact List.mem_cons_of_mem _ (ih e he hb)
        | false => rw [cond_false]; exact ih e he hb
  have memdep : ∀ (es : List Edge) (d : Nat), d ∈ depsOf es → ∃ e ∈ es, Region.binds .any e = true ∧ e.on = d := by
    intro es
    induction es with
    | nil => intro d hd; simp [depsOf] at hd
    | cons x r ih =>
      intro d hd
      simp only [depsOf] at hd
      cases hb : Region.binds .any x with
      | true =>
        rw [hb, cond_true] at hd
        rcases List.mem_cons.1 hd with rfl | hd
        · exact ⟨x, by simp, hb, rfl⟩
        · obtain ⟨e, h1, h2⟩ := ih d hd
          exact ⟨e, by simp [h1], h2⟩
      | false =>
        rw [hb, cond_false] at hd
        obtain ⟨e, h1, h2⟩ := ih d hd
        exact ⟨e, by simp [h1], h2⟩
  have getD_lt : ∀ {listed : Array Bool} {m : Nat}, listed.size = ops.size → m < ops.size → listed.getD m true ≠ false → listed.getD m false = true := by
    intro listed m hs hm h
    have hm' : m < listed.size := by omega
    simp only [Array.getD_eq_getD_getElem?, Array.getElem?_eq_getElem hm', Option.getD_some] at h ⊢
    cases hb : listed[m] with
    | true => rfl
    | false => exact absurd hb h
  have head_ready : ∀ {l : List Nat} {listed : Array Bool} {i : Nat} {l' : List Nat}, l = i :: l' → l.Sublist σ → (∀ m, listed.getD m true = false ↔ m ∈ l) → listed.size = ops.size → i ∈ Region.ready .any ops listed := by
    intro l listed i l' e hsub hl hs
    subst e
    obtain ⟨a, b, eσ, hb⟩ := cons_sub hsub
    obtain ⟨o, ho, hd, hn, _⟩ := (hσ a i b eσ).ex
    refine mem_ready.2 ⟨(hl i).2 (by simp), o, ho, fun e he hbind => ?_⟩
    have hea : e.on ∈ a := by simpa using hd e.on (depmem _ e (by simpa using he) hbind)
    have hesz : e.on < ops.size := hlt _ (by rw [eσ]; simp [hea])
    refine getD_lt hs hesz fun hf => ?_
    have hin := (hl e.on).1 hf
    rw [eσ] at hnd
    have hdis := (List.nodup_append.1 hnd).2.2 e.on hea
    rcases List.mem_cons.1 hin with h1 | h1
    · exact hdis i (by simp) h1
    · exact hdis e.on (by simp [hb.subset h1]) rfl
  intro n
  induction n with
  | zero =>
    intro l listed st a w hlen hsub hl hs hc hk hrel
    have hnil : l = [] := List.eq_nil_of_length_eq_zero (by omega)
    subst hnil
    refine ⟨List.eq_nil_iff_forall_not_mem.2 fun i hi => by have := ready_l hl i hi; simp at this, hQ st a w hk hrel⟩
  | succ n ih =>
    intro l listed st a w hlen hsub hl hs hc hk hrel
    refine ⟨fun hr => ?_, fun i hi => ?_⟩
    · cases l with
      | nil => exact hQ st a w hk hrel
      | cons i l' =>
        have := head_ready rfl hsub hl hs
        rw [hr] at this
        simp at this
    · have hil := ready_l hl i hi
      obtain ⟨pre, post, rfl⟩ := List.append_of_mem hil
      obtain ⟨r1, r2, eσ, hpre, hpost⟩ := List.append_sublist_iff.1 hsub
      obtain ⟨a2, b, e2, hb⟩ := cons_sub hpost
      obtain ⟨oi, hoi, hd, hn, hpair⟩ := (hσ (r1 ++ a2) i b (by rw [eσ, e2, List.append_assoc])).ex
      have hready := mem_ready.1 hi
      have hdeps : ∀ e ∈ depsOf oi.after.toList, listed.getD e false = true := fun d hd => by
        obtain ⟨e, he, hbind, rfl⟩ := memdep _ d hd
        obtain ⟨_, o2, ho2, hall⟩ := hready
        rw [hoi] at ho2
        have := Option.some.inj ho2
        subst this
        exact hall e (by simpa using he) hbind
      have hswap : ∀ j ∈ pre, ∃ oj, ops[j]? = some oj ∧ isVal oj.op = true ∧ (swapOK ops oj oi || swapMem ops oj i oi) = true := fun j hj => by
        rcases hpair j (by simp [hpre.subset hj]) with h1 | h1
        · exfalso
          have h2 := h1 _ hc hdeps
          have h3 := (hl j).2 (by simp [hj])
          have hjs : j < listed.size := by rw [hs]; exact hlt j (by rw [eσ]; simp [hpre.subset hj])
          simp only [Array.getD_eq_getD_getElem?, Array.getElem?_eq_getElem hjs, Option.getD_some] at h2 h3
          rw [h2] at h3
          cases h3
        · exact h1
      have hfront := front_ok hoi hswap hk
      unfold wpOp
      rw [hoi]
      have hnext : Goes F (fun s => evIdx E ops (pre ++ post) s k) r (wpAny E.P .any ops Q n (listed.setIfInBounds i true)) := by
        intro st' a' w' hk' hr'
        have hlnd : (pre ++ i :: post).Nodup := hnd.sublist hsub
        have hisz : i < listed.size := by rw [hs]; exact hlt i (by rw [eσ, e2]; simp)
        refine ih (l := pre ++ post) (by simp at hlen ⊢; omega) ?_ (fun m => ?_) (by simpa using hs) ?_ hk' hr'
        · exact List.Sublist.trans (List.Sublist.append (List.Sublist.refl _) (List.sublist_cons_self _ _)) hsub
        · by_cases hm : m = i
          · subst hm
            have hni : m ∉ pre ++ post := by
              have := List.nodup_append.1 hlnd
              have h2 := List.nodup_cons.1 this.2.1
              intro h
              rcases List.mem_append.1 h with h | h
              · exact this.2.2 m h m (by simp) rfl
              · exact h2.1 h
            simp [Array.getD_eq_getD_getElem?, hisz]
            simpa using hni
          · have e1 : (listed.setIfInBounds i true).getD m true = listed.getD m true := by
              simp [Array.getD_eq_getD_getElem?, Ne.symm hm]
            rw [e1, hl m]
            simp [hm]
        · intro m om hm hom e he
          by_cases hei : e = i
          · subst hei
            simp [Array.getD_eq_getD_getElem?, hisz]
          · have e1 : (listed.setIfInBounds i true).getD e false = listed.getD e false := by
              simp [Array.getD_eq_getD_getElem?, Ne.symm hei]
            show (listed.setIfInBounds i true).getD e false = true
            rw [e1]
            by_cases hmi : m = i
            · subst hmi
              rw [hoi] at hom
              have := Option.some.inj hom
              subst this
              exact hdeps e he
            · have e2 : (listed.setIfInBounds i true).getD m false = listed.getD m false := by
                simp [Array.getD_eq_getD_getElem?, Ne.symm hmi]
              have hm' : (listed.setIfInBounds i true).getD m false = true := hm
              rw [e2] at hm'
              exact hc m om hm' hom e he
      obtain ⟨L, hL⟩ := hrel
      unfold evI at hfront
      obtain ⟨_, hfront⟩ := ifB hfront
      unfold evOpG at hfront
      rw [Option.bind_eq_some_iff] at hfront
      obtain ⟨g, hg, hfront⟩ := hfront
      have hwant := goes_wanted hL hg
      cases g with
      | true =>
        simp only [hwant, if_true]
        rw [cond_true] at hfront
        exact .inl (evOpQ_ok hE hL hnext hfront)
      | false =>
        simp only [hwant, Bool.false_eq_true, if_false]
        rw [cond_false] at hfront
        exact hnext _ _ _ hfront ⟨L, hL.put (voidV _) oi.dst⟩

theorem orderQ_length (ops : Array Oper) : ∀ (n : Nat) (done : List Nat), (orderQ ops n done).length ≤ n + done.length
  | 0, done => by simp [orderQ]
  | n + 1, done => by
    simp only [orderQ]
    split
    · rename_i i _
      have := orderQ_length ops n (i :: done)
      simp only [List.length_cons] at this
      omega
    · split
      · rename_i i _
        have := orderQ_length ops n (i :: done)
        simp only [List.length_cons] at this
        omega
      · simp

theorem evDraw_ok (hE : EnvOK F E R) {ops : Array Oper} {id : Nat} {k : St → Option α} {r : α} (hQ : ∀ st a w, k st = some r → Rel F st a w → Q .normal a w) (hk : evDraw E ops st k = some r) {a : Act} {w : World} (h : Rel F st a w) : (Code.region id ops true).wp E.P Q a w := by
  unfold evDraw at hk
  obtain ⟨hc, hk⟩ := ifB hk
  simp only [Bool.and_eq_true] at hc
  obtain ⟨h1, h2⟩ := ord_spec hc.2 (fun m x hx => by simp [lookA] at hx)
  have hσ : ∀ a i b, orderQ ops ops.size [] = a ++ i :: b → OrdAt ops a.reverse i := fun a i b e => by
    have := h1 a i b e
    simpa using this
  obtain ⟨hnd, hlt⟩ := mem_of_ord hσ
  refine wp_region_any hc.1 ?_
  refine draw_any hE hσ hQ ops.size (l := orderQ ops ops.size []) ?_ (List.Sublist.refl _) (fun m => ?_) (by simp) (fun m om hm hom => ?_) hk ?_
  · have := orderQ_length ops ops.size []
    simpa using this
  · constructor
    · intro hf
      have hm : m < ops.size := by
        rcases Nat.lt_or_ge m ops.size with h | h
        · exact h
        · simp [Array.getD_eq_getD_getElem?, Nat.not_lt.2 h] at hf
      rcases h2 m hm with h | h
      · simp at h
      · exact h
    · intro hm
      have := hlt m hm
      simp [Array.getD_eq_getD_getElem?, this]
  · exfalso
    rcases Nat.lt_or_ge m ops.size with h | h
    · simp [Array.getD_eq_getD_getElem?, h] at hm
    · simp [Array.getD_eq_getD_getElem?, Nat.not_lt.2 h] at hm
  · obtain ⟨L, hL⟩ := h
    exact ⟨L, { hL with
      heap := fun id b hb => by
        obtain ⟨l, hl, hbl⟩ := hL.heap id b hb
        exact ⟨l, hl, ⟨hbl.hw, hbl.hn, hbl.hm, hbl.le, hbl.cells, hbl.ro, hbl.own, hbl.m1, hbl.m2, hbl.nb⟩⟩
      below := ⟨hL.below.os, hL.below.tape, hL.below.output, hL.below.size, hL.below.block⟩ }⟩

end Go.Ev
