/- Regions that draw their order: read in one order, they hold in every order. -/
import Derived.Test.YthjehhoafmnmkaaEvCode
import Derived.Orders
namespace Go.Ev
open Go.RowKit
variable {α : Type} {P : Program} {w : World} {F : Fix} {L : LM} {st : St} {a : Act} {r : α}
variable {R : Res → Act → World → Prop} {E : Env α} {o : Oper} {k : St → Option α} {next : Act → World → Prop} {Q : Exit → Act → World → Prop}
theorem dZ {β γ : Type} (c : Bool) (x y : Option β) (f : β → Option γ) : (bif c then x else y).bind f = bif c then x.bind f else y.bind f := by cases c <;> rfl
theorem aiX {x : Operand} {d : Nat} {v : AV} (h : d ∉ kV [x]) : (st.put (some d) v).get x = st.get x := by
 cases x with
 | tmp t =>
   simp only [kV, List.mem_singleton] at h
   simp only [St.get, St.put, List.getD_eq_getElem?_getD, List.getElem?_set_ne h]
 | _ => rfl
theorem ae3 {β : Type} {eqs : TypeId → Nat → Bool} {t : TypeId} {op : BinOp} {x y : AV} {κ : AV → Option β} : SQ P eqs t op x y κ = (SQ P eqs t op x y some).bind κ := by
 unfold SQ
 split <;> try rfl
 all_goals first
  | (rw [dZ]; rfl)
  | (split <;> first
      | rfl
      | (split <;> first
          | rfl
          | (rw [dZ]; rfl)))
  | (rw [dZ, Option.bind_assoc]; rfl)
theorem DV {β : Type} {l : List β} : ∀ {n i : Nat} {γ : Type} {κ : List β → Option γ}, Dk l i n κ = (Dk l i n some).bind κ
 | 0, i, γ, κ => rfl
 | n + 1, i, γ, κ => by
   simp only [Dk]
   cases l[i]? with
   | none => rfl
   | some x =>
     simp only [Option.bind_some]
     rw [DV (n := n) (κ := fun r => κ (x :: r)), DV (n := n) (κ := fun r => some (x :: r)), Option.bind_assoc]
     rfl
theorem abN {γ : Type} {b : Blk} {row col n : Nat} {κ : List AV → Option γ} : b.read row col n κ = (b.read row col n some).bind κ := by
 cases b with
 | map => first | rfl | (cases h; done) | (simp at h; done) | (simp at *; done)
 | bld => first | rfl | (cases h; done) | (simp at h; done) | (simp at *; done)
 | mix m e l =>
   simp only [Blk.read]
   rw [dZ]
   rfl
 | rows m e t l =>
   simp only [Blk.read]
   rw [dZ, dZ, dZ]
   rw [DV (κ := fun xs => κ (xs.flatMap t.enc)), DV (κ := fun xs => some (xs.flatMap t.enc)), Option.bind_assoc]
   cases l[row]? <;> rfl
theorem PV {γ : Type} {f : Int → Int → Int} {ka : IntKind} : ∀ {l : List AV} {x : Int} {κ : AV → Option γ}, vk f ka x l κ = (vk f ka x l some).bind κ
 | [], x, κ => rfl
 | y :: l, x, κ => by
   cases y with
   | int kb n =>
     simp only [vk]
     split
     ·exact PV
     ·rfl
   | _ => rfl
theorem aeN {γ : Type} {cs : List AV} {κ : AV → Option γ} : IY cs κ = (IY cs some).bind κ := by
 unfold IY
 split <;> rfl
theorem gV {β γ : Type} {x : Option β} {f g : β → Option γ} (h : ∀ b, f b = g b) : x.bind f = x.bind g := by
 cases x with
 | none => rfl
 | some b => exact h b
theorem PK {j id : Nat} {b' : Blk} (hne : j ≠ id) : ∀ {h : Heap}, look (upd h id b') j = look h j
 | [] => by
   have : Nat.beq id j = false := by
    cases hb : Nat.beq id j with
    | false => rfl
    | true => exact absurd (ay hb).symm hne
   simp [upd, look, this]
 | (i, c) :: r => by
   simp only [upd]
   cases hb : Nat.beq i id with
   | true =>
     have := ay hb
     subst this
     have hf : Nat.beq i j = false := by
      cases hb : Nat.beq i j with
      | false => rfl
      | true => exact absurd (ay hb).symm hne
     simp [look, hf]
   | false =>
     simp only [cond_false, look]
     cases Nat.beq i j with
     | true => rfl
     | false => simp only [cond_false]; exact PK hne
theorem wV {γ : Type} {t : Ty} : ∀ {vs : List AV} {l : List t.den} {i : Nat} {κ : List t.den → Option γ}, tJ t l i vs κ = (tJ t l i vs some).bind κ
 | [], l, i, κ => rfl
 | v :: vs, l, i, κ => by
   simp only [tJ]
   cases l[i]? with
   | none => rfl
   | some _ =>
     simp only [Option.bind_some]
     cases t.dec [v] with
     | none => rfl
     | some x => simp only [Option.bind_some]; exact wV
theorem Kw {γ : Type} {b : Blk} {row col : Nat} {vs : List AV} {κ : Blk → Option γ} : b.write row col vs κ = (b.write row col vs some).bind κ := by
 unfold Blk.write
 rw [dZ]
 cases b with
 | map => first | rfl | (cases h; done) | (simp at h; done) | (simp at *; done)
 | bld e eb t =>
   simp only
   rw [dZ]
   rfl
 | mix m e l =>
   simp only
   rw [dZ]
   rfl
 | rows m e t l =>
   simp only
   rw [dZ, dZ, dZ]
   rw [wV (κ := fun l' => κ (Blk.rows m e t l')), wV (κ := fun l' => some (Blk.rows m e t l')), Option.bind_assoc]
   cases l[row]? with
   | none => rfl
   | some x => simp only [Option.bind_some]; cases aaU t x col vs <;> rfl
theorem mJ {h : Heap} {x : Operand} : St.get ⟨st.slots, h⟩ x = st.get x := by cases x <;> rfl
theorem IQ {j d : Nat} (h : Nat.beq (j / 64) d = false) : j / 64 ≠ d := gW h
theorem abu {id : Nat} {b b' : Blk} (hw : b'.w = b.w) (hn : b'.n = b.n) {hp : Heap} (hb : look hp id = some b) (j : Nat) {β : Type} (f : Blk → Option β) (hf : ∀ c c' : Blk, c.w = c'.w → c.n = c'.n → f c = f c') : (look (upd hp id b') j).bind f = (look hp j).bind f := by
 rw [gy]
 split
 ·rename_i e
  subst e
  rw [hb]
  exact hf _ _ hw hn
 ·rfl
theorem UZ {t : Ty} : ∀ {vs : List AV} {l l' : List t.den} {i : Nat}, tJ t l i vs some = some l' → l'.length = l.length
 | [], l, l', i, h => by
   simp only [tJ] at h
   have := Option.some.inj h
   rw [this]
 | v :: r, l, l', i, h => by
   simp only [tJ, Option.bind_eq_some_iff] at h
   obtain ⟨_, _, x, _, h⟩ := h
   have := UZ h
   simpa using this
theorem adY {b b' : Blk} {row col : Nat} {vs : List AV} (h : b.write row col vs some = some b') : b'.w = b.w ∧ b'.n = b.n := by
 unfold Blk.write at h
 cases hc : (Nat.beq b.mode 0 && !b.isBld || !gZ vs) with
 | true => rw [hc, cond_true] at h; cases h
 | false =>
   rw [hc, cond_false] at h
   cases b with
   | map => first | rfl | (cases h; done) | (simp at h; done) | (simp at *; done)
   | bld e eb t =>
     simp only at h
     obtain ⟨_, h⟩ := ifB h
     have := Option.some.inj h
     subst this
     exact ⟨rfl, rfl⟩
   | mix m e l =>
     simp only at h
     obtain ⟨_, h⟩ := ifB h
     have := Option.some.inj h
     subst this
     exact ⟨rfl, by simp [Blk.n, uq]⟩
   | rows m e t l =>
     simp only at h
     cases h1 : Nat.beq t.w 1 with
     | true =>
       rw [h1, cond_true] at h
       obtain ⟨_, h⟩ := ifB h
       rw [wV, Option.bind_eq_some_iff] at h
       obtain ⟨l', h2, h⟩ := h
       have := Option.some.inj h
       subst this
       exact ⟨rfl, UZ h2⟩
     | false =>
       rw [h1, cond_false] at h
       obtain ⟨_, h⟩ := ifB h
       simp only [Option.bind_eq_some_iff] at h
       obtain ⟨x, _, y, _, h⟩ := h
       have := Option.some.inj h
       subst this
       exact ⟨rfl, by simp [Blk.n]⟩
mutual
theorem ado : ∀ (v : AV) {j : Nat}, v.names j = true → v.at (j / 64) = true
 | .ptr i _ _, j, h => by
   simp only [AV.names] at h
   have := ay h
   subst this
   simp [AV.at]
 | .sl i, j, h => by
   simp only [AV.names] at h
   have := ay h
   subst this
   simp [AV.at]
 | .sub i _ _, j, h => by
   simp only [AV.names] at h
   have := ay h
   subst this
   simp [AV.at]
 | .map i, j, h => by
   simp only [AV.names] at h
   have := ay h
   subst this
   simp [AV.at]
 | .agg l, j, h => by
   simp only [AV.names] at h
   simp only [AV.at]
   exact Iy l h
 | .tup l, j, h => by
   simp only [AV.names] at h
   simp only [AV.at]
   exact Iy l h
 | .fn _ l, j, h => by
   simp only [AV.names] at h
   simp only [AV.at]
   exact Iy l h
 | .undef, _, h => by simp [AV.names] at h
 | .int _ _, _, h => by simp [AV.names] at h
 | .bool _, _, h => by simp [AV.names] at h
 | .str _, _, h => by simp [AV.names] at h
 | .nilptr, _, h => by simp [AV.names] at h
 | .nilsl, _, h => by simp [AV.names] at h
 | .emp, _, h => by simp [AV.names] at h
theorem Iy : ∀ (l : List AV) {j : Nat}, AV.namesAll j l = true → AV.atAll (j / 64) l = true
 | [], _, h => by simp [AV.namesAll] at h
 | x :: l, j, h => by
   simp only [AV.namesAll, Bool.or_eq_true] at h
   simp only [AV.atAll, Bool.or_eq_true]
   rcases h with h | h
   ·exact .inl (ado x h)
   ·exact .inr (Iy l h)
end
theorem xZ {v : AV} {d j : Nat} (h : v.at d = false) (hj : j / 64 = d) : v.names j = false := by
 cases hn : v.names j with
 | false => rfl
 | true =>
   have := ado v hn
   rw [hj, h] at this
   cases this
theorem Jk {γ : Type} {v : Option AV} {d h : Nat} {κ : Nat → Option γ} : lQ v d h κ = (lQ v d h some).bind κ := by
 unfold lQ
 split
 ·rfl
 ·rw [dZ]; rfl
 ·rfl
theorem Cj {γ : Type} {v u : Option AV} {d d2 h : Nat} {f : Nat → Nat → AV} {κ : AV → Option γ} : (lQ v d h fun a => lQ u d2 a fun b => κ (f a b)) = (lQ v d h fun a => lQ u d2 a fun b => some (f a b)).bind κ := by
 rw [Jk, Jk (κ := fun a => lQ u d2 a fun b => some (f a b)), Option.bind_assoc]
 refine gV fun a => ?_
 rw [Jk, Jk (κ := fun b => some (f a b)), Option.bind_assoc]
 rfl
theorem acn {γ : Type} {P : Program} {T : TypeId} {x : AV} {lo hi mx : Option AV} {h : Heap} {κ : AV → Option γ} : xQ P T x lo hi mx h κ = (xQ P T x lo hi mx h some).bind κ := by
 unfold xQ
 split
 ·split
  ·exact Cj
  ·rfl
 ·split
  ·simp only [Option.bind_assoc]
   refine gV fun b => gV fun s => ?_
   rw [dZ]
   simp only [Option.bind_none]
   congr 1
   exact Cj (f := fun h l => AV.sub _ l (h - l))
  ·simp only [Option.bind_assoc]
   refine gV fun b => gV fun s => ?_
   rw [dZ]
   simp only [Option.bind_none]
   congr 1
   exact Cj (f := fun h l => AV.sub _ (jq _ l 1) (h - l))
  ·simp only [Option.bind_assoc]
   exact gV fun s => Cj (f := fun _ _ => AV.nilsl)
  ·simp only [Option.bind_assoc]
   exact gV fun s => Cj (f := fun _ _ => AV.emp)
  ·rfl
 ·simp only [Option.bind_assoc]
  refine gV fun s => ?_
  split <;> rfl
 ·rfl
theorem UW {P : Program} {T : TypeId} {x : AV} {lo hi mx : Option AV} {h h' : Heap} {κ : AV → Option α} (hl : ∀ id, x.names id = true → ∀ (f : Blk → Option α), (∀ c c' : Blk, c.w = c'.w → c.n = c'.n → f c = f c') → (look h' id).bind f = (look h id).bind f) : xQ P T x lo hi mx h' κ = xQ P T x lo hi mx h κ := by
 unfold xQ
 split
 ·rfl
 ·split
  ·rename_i id
   refine hl id (by simp [AV.names]) _ fun c c' h1 h2 => ?_
   simp only [h1, h2]
  ·rename_i id a n
   refine hl id (by simp [AV.names]) _ fun c c' h1 h2 => ?_
   simp only [h1]
  ·rfl
  ·rfl
  ·rfl
 ·rfl
 ·rfl
theorem ac4 (E : Env α) (o : Oper) (h : pY o.op = true) : ∃ y : St → Option AV, (∀ st k, evOp E o st k = (y st).bind fun x => k (st.put o.dst x)) ∧ (∀ st st' : St, (∀ x ∈ o.op.operands.toList, st'.get x = st.get x) → st'.heap = st.heap → y st' = y st) ∧ (gJ o.op = true → ∀ (st : St) (h : Heap), y ⟨st.slots, h⟩ = y st) ∧
 (∀ l, jX o.op l = true → ∀ (st : St) (id : Nat) (b' : Blk), (∀ s ∈ l, ∃ j r c, st.slots.getD s .undef = .ptr j r c ∧ j ≠ id) → y ⟨st.slots, upd st.heap id b'⟩ = y st) ∧
 (∀ (st : St) (h' : Heap), (∀ x ∈ o.op.operands.toList, ∀ id, (st.get x).names id = true → look h' id = look st.heap id) → y ⟨st.slots, h'⟩ = y st) ∧
 (lV o.op = true → ∀ (st : St) (h' : Heap), (∀ x ∈ o.op.operands.toList, ∀ j, (st.get x).names j = true → ∀ (β : Type) (f : Blk → Option β), (∀ c c' : Blk, c.w = c'.w → c.n = c'.n → f c = f c') → (look h' j).bind f = (look st.heap j).bind f) → y ⟨st.slots, h'⟩ = y st) := by
 cases hop : o.op <;> rw [hop] at h <;> simp only [pY] at h <;> try (cases h; done)
 case move x =>
  refine ⟨fun st => some (st.get x), fun st k => by simp only [evOp, hop]; rfl, fun st st' hd hhp => ?_, fun hm st h => ?_, fun l hl st id b' hs => ?_, fun st h' hl => ?_, fun hsh => by simp [lV] at hsh⟩
  simp only [hd x (by simp [Op.operands])]
  ·first
    | rfl
    | (simp [gJ] at hm; done)
    | (simp [gJ, *] at hm; done)
  ·simp [jX] at hl
  ·rfl
 case nilCheck x =>
  refine ⟨fun st => match st.get x with
   | .ptr id r c => some (.ptr id r c)
   | _ => none, fun st k => ?_, fun st st' hd hhp => ?_, fun hm st h => ?_, fun l hl st id b' hs => ?_, fun st h' hl => ?_, fun hsh => by simp [lV] at hsh⟩
  ·simp only [evOp, hop]
   cases st.get x <;> rfl
  ·simp only [hd x (by simp [Op.operands])]
  ·rfl
  ·simp [jX] at hl
  ·rfl
 case slice T x lo hi mx =>
  refine ⟨fun st => xQ E.P T (st.get x) (lo.map st.get) (hi.map st.get) (mx.map st.get) st.heap some, fun st k => ?_, fun st st' hd hhp => ?_, fun hm st h => ?_, fun l hl st id b' hs => ?_, fun st h' hl => ?_, fun hsh st h' hk => ?_⟩
  ·simp only [evOp, hop]
   unfold YY
   rw [acn]
  ·have go : ∀ {y : Option Operand}, (∀ z, y = some z → z ∈ (Op.slice T x lo hi mx).operands.toList) → y.map st'.get = y.map st.get := fun {y} hy => by
    cases y with
    | none => rfl
    | some z => simp only [Option.map_some, hd z (hy z rfl)]
   simp only [hd x (by simp [Op.operands]), hhp]
   rw [go fun z e => by subst e; simp [Op.operands], go fun z e => by subst e; simp [Op.operands], go fun z e => by subst e; simp [Op.operands]]
  ·simp [gJ] at hm
  ·simp [jX] at hl
  ·have hx := hl x (by simp [Op.operands])
   have eg : ∀ y : Option Operand, y.map (St.get ⟨st.slots, h'⟩) = y.map st.get := fun y => by cases y <;> simp [mJ]
   simp only [mJ, eg]
   refine UW fun id hid f _ => ?_
   rw [hx id hid]
  ·have eg : ∀ y : Option Operand, y.map (St.get ⟨st.slots, h'⟩) = y.map st.get := fun y => by cases y <;> simp [mJ]
   simp only [mJ, eg]
   exact UW fun j hj f hf => hk x (by simp [Op.operands]) j hj _ f hf
 case assign x =>
  refine ⟨fun st => some (st.get x), fun st k => by simp only [evOp, hop]; rfl, fun st st' hd hhp => ?_, fun hm st h => ?_, fun l hl st id b' hs => ?_, fun st h' hl => ?_, fun hsh => by simp [lV] at hsh⟩
  simp only [hd x (by simp [Op.operands])]
  ·first
    | rfl
    | (simp [gJ] at hm; done)
    | (simp [gJ, *] at hm; done)
  ·simp [jX] at hl
  ·rfl
 case load t x =>
  refine ⟨fun st => match st.get x with
   | .ptr id r c => (look st.heap id).bind fun b => (dX E.P t).bind fun n => (aggT E.P t).bind fun ag => b.read r c n fun cs => bif ag then some (.agg cs) else IY cs some
   | _ => none, fun st k => ?_, fun st st' hd hhp => ?_, fun hm st h => ?_, fun l hl st id b' hs => ?_, fun st h' hl => ?_, fun hsh => by simp [lV] at hsh⟩
  ·simp only [evOp, hop]
   cases hx : st.get x with
   | ptr id r c =>
     simp only [Option.bind_assoc]
     refine gV fun b => gV fun n => gV fun ag => ?_
     rw [abN, abN (κ := fun cs => bif ag then some (.agg cs) else IY cs some), Option.bind_assoc]
     refine gV fun cs => ?_
     rw [dZ, aeN]
     rfl
   | _ => rfl
  ·simp only [hd x (by simp [Op.operands]), hhp]
  ·simp [gJ] at hm
  ·cases x with
   | tmp s =>
     obtain ⟨j, r, c, he, hne⟩ := hs s (mY.1 hl)
     show (match st.slots.getD s .undef with
      | .ptr id r c => _
      | _ => none) = (match st.slots.getD s .undef with
      | .ptr id r c => _
      | _ => none)
     rw [he]
     simp only
     rw [PK hne]
   | _ => simp [jX] at hl
  ·have hx := hl x (by simp [Op.operands])
   simp only [mJ]
   cases hg : st.get x with
   | ptr id r c =>
     rw [hg] at hx
     have he := hx id (by simp [AV.names])
     simp only [he]
   | _ => rfl
 case binOp op t x y t2 =>
  refine ⟨fun st => SQ E.P E.eqs t op (st.get x) (st.get y) some, fun st k => ?_, fun st st' hd hhp => ?_, fun hm st h => ?_, fun l hl st id b' hs => ?_, fun st h' hl => ?_, fun hsh => by simp [lV] at hsh⟩
  ·simp only [evOp, hop]
   rw [ae3]
  ·simp only [hd x (by simp [Op.operands]), hd y (by simp [Op.operands])]
  ·first
    | rfl
    | (simp [gJ] at hm; done)
    | (simp [gJ, *] at hm; done)
  ·simp [jX] at hl
  ·rfl
 case pick c x y =>
  refine ⟨fun st => match st.get c with
   | .bool t => bif t then some (st.get x) else some (st.get y)
   | _ => none, fun st k => ?_, fun st st' hd hhp => ?_, fun hm st h => ?_, fun l hl st id b' hs => ?_, fun st h' hl => ?_, fun hsh => by simp [lV] at hsh⟩
  ·simp only [evOp, hop]
   cases st.get c with
   | bool t => cases t <;> rfl
   | _ => rfl
  ·simp only [hd c (by simp [Op.operands]), hd x (by simp [Op.operands]), hd y (by simp [Op.operands])]
  ·first
    | rfl
    | (simp [gJ] at hm; done)
    | (simp [gJ, *] at hm; done)
  ·simp [jX] at hl
  ·rfl
 case unOp op t x =>
  refine ⟨fun st => evUn op (st.get x) some, fun st k => ?_, fun st st' hd hhp => ?_, fun hm st h => ?_, fun l hl st id b' hs => ?_, fun st h' hl => ?_, fun hsh => by simp [lV] at hsh⟩
  ·simp only [evOp, hop]
   unfold evUn
   split <;> rfl
  ·simp only [hd x (by simp [Op.operands])]
  ·first
    | rfl
    | (simp [gJ] at hm; done)
    | (simp [gJ, *] at hm; done)
  ·simp [jX] at hl
  ·rfl
 case convert s t x =>
  refine ⟨fun st => match E.P.underlying s, E.P.underlying t, st.get x with
   | some _, some (.int k), .int _ n => some (.int k (k.wrap n))
   | some _, some .string, .str s => some (.str s)
   | _, _, _ => none, fun st k => ?_, fun st st' hd hhp => ?_, fun hm st h => ?_, fun l hl st id b' hs => ?_, fun st h' hl => ?_, fun hsh => by simp [lV] at hsh⟩
  ·simp only [evOp, hop]
   cases E.P.underlying s with
   | none => rfl
   | some sd =>
     cases E.P.underlying t with
     | none => rfl
     | some td => cases td <;> cases st.get x <;> rfl
  ·simp only [hd x (by simp [Op.operands])]
  ·first
    | rfl
    | (simp [gJ] at hm; done)
    | (simp [gJ, *] at hm; done)
  ·simp [jX] at hl
  ·rfl
 case fieldAddr s x f =>
  refine ⟨fun st => match E.P.underlying s, st.get x with
   | some (.struct fs), .ptr id r c => (fs[f]?).bind fun fd => (dX E.P fd.type).bind fun n => bif Nat.beq n 0 then none else (look st.heap id).bind fun b =>
     bif Nat.beq b.w 1 then some (.ptr id (jq r fd.offset 1) c) else some (.ptr id r (jq c fd.offset 1))
   | _, _ => none, fun st k => ?_, fun st st' hd hhp => ?_, fun hm st h => ?_, fun l hl st id b' hs => ?_, fun st h' hl => ?_, fun hsh st h' hk => ?_⟩
  ·simp only [evOp, hop]
   cases E.P.underlying s with
   | none => rfl
   | some td =>
     cases td with
     | struct fs =>
       cases hx : st.get x with
       | ptr id r c =>
         simp only [Option.bind_assoc]
         refine gV fun fd => gV fun n => ?_
         rw [dZ]
         cases Nat.beq n 0 with
         | true => rfl
         | false =>
           simp only [cond_false, Option.bind_assoc]
           refine gV fun b => ?_
           rw [dZ]
           rfl
       | _ => rfl
     | _ => rfl
  ·simp only [hd x (by simp [Op.operands]), hhp]
  ·first
    | rfl
    | (simp [gJ] at hm; done)
    | (simp [gJ, *] at hm; done)
  ·simp [jX] at hl
  ·have hx := hl x (by simp [Op.operands])
   simp only [mJ]
   cases E.P.underlying s with
   | none => rfl
   | some td =>
     cases td with
     | struct fs =>
       cases hg : st.get x with
       | ptr id r c =>
         rw [hg] at hx
         have he := hx id (by simp [AV.names])
         simp only [he]
       | _ => rfl
     | _ => rfl
  ·have key := fun (j : Nat) (hj : (st.get x).names j = true) (β : Type) (f : Blk → Option β) hf => hk x (by simp [Op.operands]) j hj β f hf
   simp only [mJ]
   cases E.P.underlying s with
   | none => rfl
   | some td =>
     cases td with
     | struct fs =>
       cases hg : st.get x with
       | ptr id r c =>
         simp only
         refine gV fun fd => gV fun n => ?_
         cases Nat.beq n 0 with
         | true => rfl
         | false =>
           simp only [cond_false]
           exact key _ (by rw [hg]; simp [AV.names]) _ _ fun c c' h1 h2 => by simp only [h1]
       | _ => rfl
     | _ => rfl
 case build t parts =>
  refine ⟨fun st => Xx E.P t (parts.toList.map fun (i, x) => (i, st.get x)), fun st k => by simp only [evOp, hop], fun st st' hd hhp => ?_, fun hm st h => rfl, fun l hl st id b' hs => ?_, fun st h' hl => rfl, fun hsh => by simp [lV] at hsh⟩
  ·have : (parts.toList.map fun (i, x) => (i, st'.get x)) = parts.toList.map fun (i, x) => (i, st.get x) := by
    refine List.map_congr_left fun p hp => ?_
    have : st'.get p.2 = st.get p.2 := hd _ (by
     simp only [Op.operands]
     exact List.mem_map.2 ⟨p, hp, rfl⟩)
    simp only [this]
   simp only [this]
  ·simp [jX] at hl
 case field t x f =>
  refine ⟨fun st => match E.P.underlying t, st.get x with
   | some (.struct fs), .agg l => (fs[f]?).bind fun fd => (dX E.P fd.type).bind fun n => (aggT E.P fd.type).bind fun ag =>
     bif ag then some (.agg ((l.drop fd.offset).take n)) else l[fd.offset]?
   | _, _ => none, fun st k => ?_, fun st st' hd hhp => ?_, fun hm st h => ?_, fun l hl st id b' hs => ?_, fun st h' hl => ?_, fun hsh => by simp [lV] at hsh⟩
  ·simp only [evOp, hop]
   cases E.P.underlying t with
   | none => rfl
   | some td =>
     cases td with
     | struct fs =>
       cases hx : st.get x with
       | agg l =>
         simp only [Option.bind_assoc]
         refine gV fun fd => gV fun n => gV fun ag => ?_
         rw [dZ]
         rfl
       | _ => rfl
     | _ => rfl
  ·simp only [hd x (by simp [Op.operands])]
  ·first
    | rfl
    | (simp [gJ] at hm; done)
    | (simp [gJ, *] at hm; done)
  ·simp [jX] at hl
  ·rfl
 case extract x i =>
  refine ⟨fun st => match st.get x with
   | .tup l => l[i]?
   | _ => none, fun st k => ?_, fun st st' hd hhp => ?_, fun hm st h => ?_, fun l hl st id b' hs => ?_, fun st h' hl => ?_, fun hsh => by simp [lV] at hsh⟩
  ·simp only [evOp, hop]
   cases hx : st.get x <;> rfl
  ·simp only [hd x (by simp [Op.operands])]
  ·first
    | rfl
    | (simp [gJ] at hm; done)
    | (simp [gJ, *] at hm; done)
  ·simp [jX] at hl
  ·rfl
 case indexAddr t x i =>
  refine ⟨fun st => match E.P.underlying t, st.get x, st.get i with
   | some (.array len e), .ptr id r c, .int _ n => (dX E.P e).bind fun s => (look st.heap id).bind fun b =>
     bif decide (0 ≤ n) && decide (n < (len : Int)) then bif Nat.beq b.w 1 then some (.ptr id (jq r n.toNat s) c) else some (.ptr id r (jq c n.toNat s))
     else none
   | some (.slice e), .sl id, .int _ n => (dX E.P e).bind fun s => (look st.heap id).bind fun b =>
     bif Nat.beq s b.w then bif decide (0 ≤ n) && decide (n < (b.n : Int)) then some (.ptr id n.toNat 0) else none else none
   | some (.slice e), .sub id lo m, .int _ n => (dX E.P e).bind fun s => (look st.heap id).bind fun b =>
     bif Nat.beq s b.w then bif decide (0 ≤ n) && decide (n < (m : Int)) then some (.ptr id (jq lo n.toNat 1) 0) else none else none
   | _, _, _ => none, fun st k => ?_, fun st st' hd hhp => ?_, fun hm st h => ?_, fun l hl st id b' hs => ?_, fun st h' hl => ?_, fun hsh st h' hk => ?_⟩
  ·simp only [evOp, hop]
   split
   ·rename_i h1 h2 h3
    simp only [h1, h2, h3, Option.bind_assoc]
    refine gV fun s => gV fun b => ?_
    simp only [dZ, Option.bind_some, Option.bind_none]
   ·rename_i h1 h2 h3
    simp only [h1, h2, h3, Option.bind_assoc]
    refine gV fun s => gV fun b => ?_
    simp only [dZ, Option.bind_some, Option.bind_none]
   ·rename_i h1 h2 h3
    simp only [h1, h2, h3, Option.bind_assoc]
    refine gV fun s => gV fun b => ?_
    simp only [dZ, Option.bind_some, Option.bind_none]
   ·rename_i h1 h2 h3
    split
    ·rename_i e1 e2 e3; exact absurd e3 (h1 _ _ _ _ _ _ _ e1 e2)
    ·rename_i e1 e2 e3; exact absurd e3 (h2 _ _ _ _ e1 e2)
    ·rename_i e1 e2 e3; exact absurd e3 (h3 _ _ _ _ _ _ e1 e2)
    ·rfl
  ·simp only [hd x (by simp [Op.operands]), hd i (by simp [Op.operands]), hhp]
  ·first
    | rfl
    | (simp [gJ] at hm; done)
    | (simp [gJ, *] at hm; done)
  ·simp [jX] at hl
  ·have hx := hl x (by simp [Op.operands])
   simp only [mJ]
   cases E.P.underlying t with
   | none => rfl
   | some td =>
     cases td with
     | array len e =>
       cases hg : st.get x with
       | ptr id r c =>
         rw [hg] at hx
         have he := hx id (by simp [AV.names])
         cases st.get i <;> simp only [he]
       | _ => rfl
     | slice e =>
       cases hg : st.get x with
       | sl id =>
         rw [hg] at hx
         have he := hx id (by simp [AV.names])
         cases st.get i <;> simp only [he]
       | sub id lo m =>
         rw [hg] at hx
         have he := hx id (by simp [AV.names])
         cases st.get i <;> simp only [he]
       | _ => rfl
     | _ => rfl
  ·have key := fun (j : Nat) (hj : (st.get x).names j = true) (β : Type) (f : Blk → Option β) hf => hk x (by simp [Op.operands]) j hj β f hf
   simp only [mJ]
   cases E.P.underlying t with
   | none => rfl
   | some td =>
     cases td with
     | array len e =>
       cases hg : st.get x with
       | ptr id r c =>
         cases st.get i with
         | int ka n =>
           simp only
           refine gV fun s => ?_
           exact key _ (by rw [hg]; simp [AV.names]) _ _ fun c c' h1 h2 => by simp only [h1]
         | _ => rfl
       | _ => rfl
     | slice e =>
       cases hg : st.get x with
       | sl id =>
         cases st.get i with
         | int ka n =>
           simp only
           refine gV fun s => ?_
           exact key _ (by rw [hg]; simp [AV.names]) _ _ fun c c' h1 h2 => by simp only [h1, h2]
         | _ => rfl
       | sub id lo m =>
         cases st.get i with
         | int ka n =>
           simp only
           refine gV fun s => ?_
           exact key _ (by rw [hg]; simp [AV.names]) _ _ fun c c' h1 h2 => by simp only [h1]
         | _ => rfl
       | _ => rfl
     | _ => rfl
 case index t x i =>
  refine ⟨fun st => match E.P.underlying t, st.get x, st.get i with
   | some .string, .str s, .int _ n => bif decide (0 ≤ n) then (s.data.toList[n.toNat]?).bind fun c => some (.int .u8 c.toNat) else none
   | some (.array len e), .agg l, .int _ n => (dX E.P e).bind fun s => (aggT E.P e).bind fun ag =>
     bif decide (0 ≤ n) && decide (n < (len : Int)) then bif ag then some (.agg ((l.drop (jq 0 n.toNat s)).take s)) else l[jq 0 n.toNat s]?
     else none
   | _, _, _ => none, fun st k => ?_, fun st st' hd hhp => ?_, fun hm st h => ?_, fun l hl st id b' hs => ?_, fun st h' hl => ?_, fun hsh => by simp [lV] at hsh⟩
  ·simp only [evOp, hop]
   split
   ·rename_i h1 h2 h3
    simp only [h1, h2, h3, dZ, Option.bind_assoc, Option.bind_some, Option.bind_none]
   ·rename_i h1 h2 h3
    simp only [h1, h2, h3, Option.bind_assoc]
    refine gV fun s => gV fun b => ?_
    simp only [dZ, Option.bind_some, Option.bind_none]
   ·rename_i h1 h2
    split
    ·rename_i e1 e2 e3; exact absurd e3 (h1 _ _ _ e1 e2)
    ·rename_i e1 e2 e3; exact absurd e3 (h2 _ _ _ _ _ e1 e2)
    ·rfl
  ·simp only [hd x (by simp [Op.operands]), hd i (by simp [Op.operands])]
  ·first
    | rfl
    | (simp [gJ] at hm; done)
    | (simp [gJ, *] at hm; done)
  ·simp [jX] at hl
  ·rfl
 case call c =>
  split at h
  ·rename_i hcal
   refine ⟨fun st => match c.args.toList.map st.get, c.argTypes.toList with
    | [x], [t] => match E.P.underlying t, x with
      | some (.slice _), .str _ => none
      | some .string, .str s => some (.int .i64 s.size)
      | some (.slice _), x => (xX st.heap x).bind fun n => some (.int .i64 n)
      | _, _ => none
    | _, _ => none, fun st k => ?_, fun st st' hd hhp => ?_, fun hm st h => ?_, fun l hl st id b' hs => ?_, fun st h' hl => ?_, fun hsh st h' hk => ?_⟩
   ·simp only [evOp, hop, hcal, zV]
    generalize c.args.toList.map st.get = xs
    match xs with
    | [] => rfl
    | _ :: _ :: _ => rfl
    | [x] =>
      generalize c.argTypes.toList = ts
      match ts with
      | [] => rfl
      | _ :: _ :: _ => rfl
      | [t] =>
        simp only
        cases E.P.underlying t with
        | none => rfl
        | some td => cases td <;> cases x <;> simp only [Option.bind_assoc] <;> rfl
   ·have hmap : c.args.toList.map st'.get = c.args.toList.map st.get := by
     refine List.map_congr_left fun x hx => hd x ?_
     simp [Op.operands, Call.operands, hcal]
     simpa using hx
    simp only [hmap, hhp]
   ·first
     | rfl
     | (simp [gJ] at hm; done)
     | (simp [gJ, *] at hm; done)
   ·simp [jX] at hl
   ·have hmap : c.args.toList.map (St.get ⟨st.slots, h'⟩) = c.args.toList.map st.get := List.map_congr_left fun x _ => mJ
    simp only [hmap]
    have hn' : ∀ x ∈ c.args.toList.map st.get, ∀ id, x.names id = true → look h' id = look st.heap id := fun x hx => by
     obtain ⟨z, hz, rfl⟩ := List.mem_map.1 hx
     exact hl z (by simp [Op.operands, Call.operands, hcal]; simpa using hz)
    generalize c.args.toList.map st.get = xs at hn' ⊢
    match xs, hn' with
    | [], _ => rfl
    | _ :: _ :: _, _ => rfl
    | [x], hn' =>
      generalize c.argTypes.toList = ts
      match ts with
      | [] => rfl
      | _ :: _ :: _ => rfl
      | [t] =>
        have hx := hn' x (by simp)
        have hlen : xX h' x = xX st.heap x := by
         cases x with
         | sl id => simp only [xX, hx id (by simp [AV.names])]
         | _ => rfl
        simp only
        cases E.P.underlying t with
        | none => cases x <;> rfl
        | some td => cases td <;> cases x <;> first | rfl | simp only [hlen]
   ·have hmap : c.args.toList.map (St.get ⟨st.slots, h'⟩) = c.args.toList.map st.get := List.map_congr_left fun x _ => mJ
    simp only [hmap]
    have hn' : ∀ x ∈ c.args.toList.map st.get, ∀ j, x.names j = true → ∀ (β : Type) (f : Blk → Option β), (∀ c c' : Blk, c.w = c'.w → c.n = c'.n → f c = f c') → (look h' j).bind f = (look st.heap j).bind f := fun x hx => by
     obtain ⟨z, hz, rfl⟩ := List.mem_map.1 hx
     exact hk z (by simp [Op.operands, Call.operands, hcal]; simpa using hz)
    generalize c.args.toList.map st.get = xs at hn' ⊢
    match xs, hn' with
    | [], _ => rfl
    | _ :: _ :: _, _ => rfl
    | [x], hn' =>
      generalize c.argTypes.toList = ts
      match ts with
      | [] => rfl
      | _ :: _ :: _ => rfl
      | [t] =>
        have hlen : xX h' x = xX st.heap x := by
         cases x with
         | sl j =>
           have := hn' (.sl j) (by simp) j (by simp [AV.names]) _ (fun c => some c.n) (fun c c' _ h2 => by simp only [h2])
           simpa only [xX, Option.map_eq_bind, Function.comp_def] using this
         | _ => rfl
        simp only
        cases E.P.underlying t with
        | none => cases x <;> rfl
        | some td => cases td <;> cases x <;> first | rfl | simp only [hlen]
  ·rename_i hcal
   refine ⟨fun st => match c.args.toList.map st.get with
    | .int ka x :: r => vk max ka x r some
    | _ => none, fun st k => ?_, fun st st' hd hhp => ?_, fun hm st h => ?_, fun l hl st id b' hs => ?_, fun st h' hl => ?_, fun hsh => by simp [lV, hcal] at hsh⟩
   ·simp only [evOp, hop, hcal, zV]
    generalize c.args.toList.map st.get = xs
    match xs with
    | [] => rfl
    | x :: r =>
      cases x with
      | int ka x => simp only; exact PV
      | _ => rfl
   ·have hmap : c.args.toList.map st'.get = c.args.toList.map st.get := by
     refine List.map_congr_left fun x hx => hd x ?_
     simp [Op.operands, Call.operands, hcal]
     simpa using hx
    simp only [hmap]
   ·first
     | rfl
     | (simp [gJ] at hm; done)
     | (simp [gJ, *] at hm; done)
   ·simp [jX] at hl
   ·rfl
  ·rename_i hcal
   refine ⟨fun st => match c.args.toList.map st.get with
    | .int ka x :: r => vk min ka x r some
    | _ => none, fun st k => ?_, fun st st' hd hhp => ?_, fun hm st h => ?_, fun l hl st id b' hs => ?_, fun st h' hl => ?_, fun hsh => by simp [lV, hcal] at hsh⟩
   ·simp only [evOp, hop, hcal, zV]
    generalize c.args.toList.map st.get = xs
    match xs with
    | [] => rfl
    | x :: r =>
      cases x with
      | int ka x => simp only; exact PV
      | _ => rfl
   ·have hmap : c.args.toList.map st'.get = c.args.toList.map st.get := by
     refine List.map_congr_left fun x hx => hd x ?_
     simp [Op.operands, Call.operands, hcal]
     simpa using hx
    simp only [hmap]
   ·first
     | rfl
     | (simp [gJ] at hm; done)
     | (simp [gJ, *] at hm; done)
   ·simp [jX] at hl
   ·rfl
  ·cases h
theorem acI {d e : Nat} {x y : AV} (h : d ≠ e) : (st.put (some d) x).put (some e) y = (st.put (some e) y).put (some d) x := by
 simp only [St.put]
 rw [List.set_comm _ _ h]
theorem kX {d : Nat} : ∀ {l : List AV}, AV.atAll d l = false ↔ ∀ x ∈ l, x.at d = false
 | [] => by simp [AV.atAll]
 | x :: l => by simp [AV.atAll, kX (l := l)]
theorem pW {d : Nat} : ∀ {h : Heap}, NK d h = false ↔ ∀ p ∈ h, p.1 / 64 ≠ d ∧ p.2.at d = false
 | [] => by simp [NK]
 | (j, b) :: h => by
   simp only [NK, Bool.or_eq_false_iff, pW (h := h), List.mem_cons, forall_eq_or_imp]
   constructor
   ·rintro ⟨h1, h2, h3⟩
    exact ⟨⟨gW h1, h2⟩, h3⟩
   ·rintro ⟨⟨h1, h2⟩, h3⟩
    refine ⟨?_, h2, h3⟩
    cases hb : Nat.beq (j / 64) d with
    | false => rfl
    | true => exact absurd (ay hb) h1
theorem wK {id : Nat} {b : Blk} : ∀ {h : Heap}, look h id = some b → (id, b) ∈ h
 | [], h => by simp [look] at h
 | (j, c) :: r, h => by
   simp only [look] at h
   cases hb : Nat.beq j id with
   | true =>
     rw [hb, cond_true] at h
     have := ay hb
     subst this
     have := Option.some.inj h
     subst this
     simp
   | false =>
     rw [hb, cond_false] at h
     exact List.mem_cons_of_mem _ (wK h)
def kQ (d : Nat) (st : St) : Prop := AV.atAll d st.slots = false ∧ NK d st.heap = false
theorem ZQ (v : Value) (d : Nat) : (ny v).at d = false := by
 unfold ny
 cases v with
 | slice a l c =>
   cases a with
   | some _ => rfl
   | none => simp only; cases (Nat.beq l 0 && Nat.beq c 0) <;> rfl
 | pointer a => cases a <;> rfl
 | func fn first caps =>
   simp only
   repeat' split
   all_goals rfl
 | _ => rfl
theorem aaj (v : Value) (d : Nat) : (mW v).at d = false := by
 unfold mW
 split
 ·simp only [AV.at]
  rw [kX]
  intro x hx
  obtain ⟨c, _, rfl⟩ := List.mem_map.1 hx
  exact ZQ c d
 ·exact ZQ _ d
theorem kQ.get {d : Nat} (h : kQ d st) (x : Operand) : (st.get x).at d = false := by
 cases x with
 | tmp t =>
   simp only [St.get, List.getD_eq_getElem?_getD]
   cases ht : st.slots[t]? with
   | none => rfl
   | some v => exact kX.1 h.1 v (List.mem_of_getElem? ht)
 | const v => exact aaj v d
 | func f => rfl
 | global g => rfl
theorem kQ.blk {d id : Nat} {b : Blk} (h : kQ d st) (hb : look st.heap id = some b) : id / 64 ≠ d ∧ b.at d = false := pW.1 h.2 _ (wK hb)
theorem kQ.gone {d id : Nat} (h : kQ d st) (hd : id / 64 = d) : look st.heap id = none := by
 cases hl : look st.heap id with
 | none => rfl
 | some b => exact absurd hd (h.blk hl).1
theorem VX (d : Nat) (v : AV) : QV d v = .undef ∨ (QV d v = v ∧ v.at d = false) := by
 unfold QV
 cases h : v.at d with
 | true => exact .inl rfl
 | false => exact .inr ⟨rfl, rfl⟩
theorem abX (d e : Nat) (v : AV) (h : d = e ∨ v.at e = false) : (QV d v).at e = false := by
 rcases VX d v with h1 | ⟨h1, h2⟩
 ·rw [h1]; rfl
 ·rw [h1]
  rcases h with rfl | h
  ·exact h2
  ·exact h
theorem GX {d : Nat} : ∀ {h : Heap} {p : Nat × Blk}, p ∈ xK d h → p.1 / 64 ≠ d ∧ ∃ b, (p.1, b) ∈ h ∧ p.2 = pK d b
 | [], p, h => by simp [xK] at h
 | (j, b) :: h, p, hp => by
   simp only [xK] at hp
   cases hb : Nat.beq (j / 64) d with
   | true =>
     rw [hb, cond_true] at hp
     obtain ⟨h1, c, h2, h3⟩ := GX hp
     exact ⟨h1, c, List.mem_cons_of_mem _ h2, h3⟩
   | false =>
     rw [hb, cond_false] at hp
     rcases List.mem_cons.1 hp with rfl | hp
     ·exact ⟨gW hb, b, by simp, rfl⟩
     ·obtain ⟨h1, c, h2, h3⟩ := GX hp
      exact ⟨h1, c, List.mem_cons_of_mem _ h2, h3⟩
theorem aaW (d e : Nat) (b : Blk) (h : d = e ∨ b.at e = false) : (pK d b).at e = false := by
 cases b with
 | map => first | rfl | (cases h; done) | (simp at h; done) | (simp at *; done)
 | bld => first | rfl | (cases h; done) | (simp at h; done) | (simp at *; done)
 | rows => rfl
 | mix m ty l =>
   simp only [pK, Blk.at]
   rw [kX]
   intro x hx
   obtain ⟨v, hv, rfl⟩ := List.mem_map.1 hx
   refine abX d e v ?_
   rcases h with h | h
   ·exact .inl h
   ·exact .inr (kX.1 h v hv)
theorem aaF (st : St) (d e : Nat) (h : d = e ∨ kQ e st) : kQ e (st.drop d) := by
 constructor
 ·rw [kX]
  intro x hx
  obtain ⟨v, hv, rfl⟩ := List.mem_map.1 hx
  refine abX d e v ?_
  rcases h with h | h
  ·exact .inl h
  ·exact .inr (kX.1 h.1 v hv)
 ·rw [pW]
  intro p hp
  obtain ⟨h1, b, hb, h3⟩ := GX hp
  rcases h with rfl | h
  ·exact ⟨h1, by rw [h3]; exact aaW d d b (.inl rfl)⟩
  ·have := pW.1 h.2 _ hb
   exact ⟨this.1, by rw [h3]; exact aaW d e b (.inr this.2)⟩
theorem UY : ∀ (ds : List Nat) (st : St) (e : Nat), (e ∈ ds ∨ kQ e st) → kQ e (dropAll ds st)
 | [], st, e, h => by
   rcases h with h | h
   ·simp at h
   ·exact h
 | d :: ds, st, e, h => by
   refine UY ds (st.drop d) e ?_
   rcases h with h | h
   ·rcases List.mem_cons.1 h with h | h
    ·exact .inr (aaF st d e (.inl h.symm))
    ·exact .inl h
   ·exact .inr (aaF st d e (.inr h))
theorem rX {d id : Nat} {b' : Blk} : ∀ {h : Heap}, look (xK d h) id = some b' → ∃ b, look h id = some b ∧ b' = pK d b
 | [], h => by simp [xK, look] at h
 | (j, b) :: r, h => by
   simp only [xK] at h
   cases hb : Nat.beq (j / 64) d with
   | true =>
     rw [hb, cond_true] at h
     obtain ⟨c, h1, h2⟩ := rX h
     have hne : Nat.beq j id = false := by
      cases hx : Nat.beq j id with
      | false => rfl
      | true =>
        exfalso
        have := ay hx
        subst this
        have := GX (wK h)
        exact this.1 (ay hb)
     exact ⟨c, by simp [look, hne, h1], h2⟩
   | false =>
     rw [hb, cond_false] at h
     simp only [look] at h ⊢
     cases hx : Nat.beq j id with
     | true =>
       rw [hx, cond_true] at h
       exact ⟨b, rfl, (Option.some.inj h).symm⟩
     | false =>
       rw [hx, cond_false] at h
       exact rX h
theorem aco (d : Nat) (b : Blk) : (pK d b).mode = b.mode ∧ (pK d b).e = b.e ∧ (pK d b).w = b.w ∧ (pK d b).n = b.n ∧ (pK d b).flat.length = b.flat.length ∧ ∀ (i : Nat) (av : AV), (pK d b).flat[i]? = some av → av = .undef ∨ b.flat[i]? = some av := by
 cases b with
 | map => exact ⟨rfl, rfl, rfl, rfl, rfl, fun i av h => .inr h⟩
 | bld => exact ⟨rfl, rfl, rfl, rfl, rfl, fun i av h => .inr h⟩
 | rows m e t l => exact ⟨rfl, rfl, rfl, rfl, rfl, fun i av h => .inr h⟩
 | mix m e l =>
   refine ⟨rfl, rfl, rfl, by simp [pK, Blk.n], by simp [pK, Blk.flat], fun i av h => ?_⟩
   simp only [pK, Blk.flat, List.getElem?_map, Option.map_eq_some_iff] at h ⊢
   obtain ⟨v, hv, rfl⟩ := h
   rcases VX d v with h1 | ⟨h1, _⟩
   ·exact .inl h1
   ·exact .inr (by rw [h1]; exact hv)
section
variable [Inhabited az]
theorem RelL.drop (h : RelL F L st a w) (d : Nat) : RelL F L (st.drop d) a w := by
 refine { h with len := by simp [St.drop, h.len], slots := fun i av hi => ?_, heap := fun id b' hb' => ?_, inj := fun i j b c l m hi hj => ?_, maps := h.maps.tr _root_.id (fun j b hj hm => ?_) (fun _ _ _ _ _ _ _ _ h => h) (fun _ _ _ _ h => h) (fun _ _ _ => rfl) (fun x _ hx => .inl (by
  obtain ⟨j, c, m, hj, hm, hr⟩ := hx
  obtain ⟨b0, hb0, _⟩ := rX hj
  exact ⟨j, b0, m, hb0, hm, hr⟩)) }
 ·simp only [St.drop, List.getElem?_map, Option.map_eq_some_iff] at hi
  obtain ⟨v, hv, rfl⟩ := hi
  rcases VX d v with h1 | ⟨h1, _⟩
  ·rw [h1]; simp [V]
  ·rw [h1]; exact h.slots i v hv
 ·obtain ⟨b, hb, rfl⟩ := rX hb'
  obtain ⟨l, hl, hbl⟩ := h.heap id b hb
  obtain ⟨f1, f2, f3, f4, f5, f6⟩ := aco d b
  have hfe : (pK d b).flat = [] ↔ b.flat = [] := by rw [← List.length_eq_zero_iff, f5, List.length_eq_zero_iff]
  refine ⟨l, hl, ⟨by rw [f3]; exact hbl.hw, by rw [f4]; exact hbl.hn, by rw [f1]; exact hbl.hm, by rw [f1]; exact hbl.le, fun hbk i av hi => ?_, fun hbk hm hne => ?_, fun hbk hm => ?_, fun hbk hm => ?_, fun hbk hm => ?_, fun hbk => ?_⟩⟩
  ·rcases f6 i av hi with rfl | hi2
   ·have hlt : i < b.flat.length := by rw [← f5]; exact (List.getElem?_eq_some_iff.1 hi).1
    obtain ⟨v, hv1, _, hv3⟩ := hbl.cells hbk i _ (List.getElem?_eq_getElem hlt)
    exact ⟨v, hv1, by simp [V], hv3⟩
   ·exact hbl.cells hbk i av hi2
  ·exact hbl.ro hbk (by rw [← f1]; exact hm) (fun e => hne (hfe.2 e))
  ·rw [f2, f5]
   exact hbl.own hbk (by rw [← f1]; exact hm)
  ·exact hbl.m1 hbk (by rw [← f1]; exact hm)
  ·exact hbl.m2 hbk (by rw [← f1]; exact hm)
  ·exact hfe.2 (hbl.nb hbk)
 ·obtain ⟨b0, hb0, _⟩ := rX hi
  obtain ⟨c0, hc0, _⟩ := rX hj
  exact h.inj i j b0 c0 l m hb0 hc0
 ·obtain ⟨b0, hb0, e⟩ := rX hj
  cases b0 with
  | map => rw [e]; exact ⟨hb0, rfl⟩
  | bld => rw [e]; exact ⟨hb0, rfl⟩
  | _ => rw [e] at hm; cases hm
theorem Rel.dropAll : ∀ (ds : List Nat) {st : St} {a : Act} {w : World}, Rel F st a w → Rel F (dropAll ds st) a w
 | [], _, _, _, h => h
 | d :: ds, _, _, _, ⟨L, h⟩ => Rel.dropAll ds ⟨L, h.drop d⟩
end
theorem AQ {j id : Nat} {b : Blk} (h : j ≠ id) : ∀ {hp : Heap}, look (insH id b hp) j = look hp j
 | [] => by
   have : Nat.beq id j = false := by
    cases hb : Nat.beq id j with
    | false => rfl
    | true => exact absurd (ay hb).symm h
   simp [insH, look, this]
 | (i, c) :: r => by
   have hf : Nat.beq id j = false := by
    cases hb : Nat.beq id j with
    | false => rfl
    | true => exact absurd (ay hb).symm h
   simp only [insH]
   cases Nat.ble i id with
   | true =>
     simp only [cond_true, look]
     rw [AQ h]
   | false => simp [look, hf]
theorem QJ {id : Nat} {b : Blk} : ∀ {hp : Heap}, look hp id = none → look (insH id b hp) id = some b
 | [], _ => by simp [insH, look]
 | (i, c) :: r, h => by
   simp only [look] at h
   cases hb : Nat.beq i id with
   | true => rw [hb, cond_true] at h; cases h
   | false =>
     rw [hb, cond_false] at h
     simp only [insH]
     cases Nat.ble i id with
     | true => simp only [cond_true, look, hb, cond_false]; exact QJ h
     | false => simp [look]
theorem vw {j : Nat} : ∀ {bs : List (Nat × Blk)} {hp : Heap}, (∀ p ∈ bs, p.1 ≠ j) → look (gz bs hp) j = look hp j
 | [], _, _ => rfl
 | (id, b) :: r, hp, h => by
   simp only [gz]
   rw [vw fun p hp => h p (List.mem_cons_of_mem _ hp), AQ (fun e => h (id, b) (by simp) e.symm)]
theorem acV (h r : Heap) (j : Nat) : look (h ++ r) j = match look h j with
 | some b => some b
 | none => look r j := by
 induction h with
 | nil => rfl
 | cons p h ih =>
   obtain ⟨i, c⟩ := p
   simp only [List.cons_append, look]
   cases Nat.beq i j with
   | true => rfl
   | false => simp only [cond_false]; exact ih
def nV : List (Nat × Blk) → Heap → Prop
 | [], _ => True
 | (id, _) :: r, h => look h id = none ∧ (∀ p ∈ r, p.1 ≠ id) ∧ nV r h
theorem YX : ∀ {bs : List (Nat × Blk)} {hp : Heap}, nV bs hp → ∀ j, look (gz bs hp) j = look (hp ++ bs) j
 | [], hp, _, j => by simp [gz]
 | (id, b) :: r, hp, h, j => by
   obtain ⟨h1, h2, h3⟩ := h
   simp only [gz]
   have hr : nV r (insH id b hp) := by
    have : ∀ {r : List (Nat × Blk)}, (∀ p ∈ r, p.1 ≠ id) → nV r hp → nV r (insH id b hp) := by
     intro r
     induction r with
     | nil => intro _ _; trivial
     | cons p r ih =>
       intro g1 g2
       obtain ⟨g3, g4, g5⟩ := g2
       exact ⟨by rw [AQ (g1 p (by simp))]; exact g3, g4, ih (fun q hq => g1 q (List.mem_cons_of_mem _ hq)) g5⟩
    exact this h2 h3
   rw [YX hr, acV, acV]
   by_cases e : j = id
   ·subst e
    rw [QJ h1, h1]
    simp [look]
   ·rw [AQ e]
    have hb : Nat.beq id j = false := by
     cases hb : Nat.beq id j with
     | false => rfl
     | true => exact absurd (ay hb).symm e
    cases look hp j with
    | some _ => rfl
    | none => simp [look, hb]
theorem abV {a b : Nat} {x y : Blk} (h : a ≠ b) : ∀ (hp : Heap), insH a x (insH b y hp) = insH b y (insH a x hp)
 | [] => by
   simp only [insH]
   rcases Nat.lt_or_gt_of_ne h with h1 | h1
   ·have e1 : Nat.ble b a = false := by
     cases hb : Nat.ble b a with
     | false => rfl
     | true => have := Nat.le_of_ble_eq_true hb; omega
    have e2 : Nat.ble a b = true := Nat.ble_eq_true_of_le (by omega)
    simp [e1, e2]
   ·have e1 : Nat.ble a b = false := by
     cases hb : Nat.ble a b with
     | false => rfl
     | true => have := Nat.le_of_ble_eq_true hb; omega
    have e2 : Nat.ble b a = true := Nat.ble_eq_true_of_le (by omega)
    simp [e1, e2]
 | (i, c) :: r => by
   have ble_t : ∀ {m n : Nat}, m ≤ n → Nat.ble m n = true := fun h => Nat.ble_eq_true_of_le h
   have ble_f : ∀ {m n : Nat}, n < m → Nat.ble m n = false := fun {m n} h => by
    cases hb : Nat.ble m n with
    | false => rfl
    | true => have := Nat.le_of_ble_eq_true hb; omega
   rcases Nat.lt_or_ge a i with ha | ha <;> rcases Nat.lt_or_ge b i with hb | hb
   ·
     rcases Nat.lt_or_gt_of_ne h with h1 | h1
     ·simp [insH, ble_f ha, ble_f hb, ble_f h1, ble_t (Nat.le_of_lt h1)]
     ·simp [insH, ble_f ha, ble_f hb, ble_f h1, ble_t (Nat.le_of_lt h1)]
   ·simp [insH, ble_f ha, ble_t hb, ble_t (show a ≤ b by omega)]
   ·simp [insH, ble_t ha, ble_f hb, ble_t (show b ≤ a by omega)]
   ·simp only [insH, ble_t ha, ble_t hb, cond_true]
    rw [abV h r]
theorem Yv {a : Nat} {x : Blk} : ∀ {bs : List (Nat × Blk)} {hp : Heap}, (∀ p ∈ bs, p.1 ≠ a) → gz bs (insH a x hp) = insH a x (gz bs hp)
 | [], _, _ => rfl
 | (b, y) :: r, hp, h => by
   simp only [gz]
   rw [abV (h (b, y) (by simp)), Yv fun p hp => h p (List.mem_cons_of_mem _ hp)]
theorem Yx : ∀ {as bs : List (Nat × Blk)} {hp : Heap}, (∀ p ∈ as, ∀ q ∈ bs, p.1 ≠ q.1) → gz bs (gz as hp) = gz as (gz bs hp)
 | [], _, _, _ => rfl
 | (a, x) :: as, bs, hp, h => by
   simp only [gz]
   rw [Yx (fun p hp q hq => h p (List.mem_cons_of_mem _ hp) q hq), Yv (fun p hp e => h (a, x) (by simp) p hp e.symm)]
theorem acX {id a : Nat} {x b' : Blk} (hne : id ≠ a) : ∀ {hp : Heap}, look hp id ≠ none → upd (insH a x hp) id b' = insH a x (upd hp id b')
 | [], h => by simp [look] at h
 | (i, c) :: r, h => by
   have hfa : Nat.beq a id = false := by
    cases hb : Nat.beq a id with
    | false => rfl
    | true => exact absurd (ay hb).symm hne
   simp only [look] at h
   cases hb : Nat.beq i id with
   | true =>
     have := ay hb
     subst this
     simp only [insH]
     cases hx : Nat.ble i a with
     | true => simp [upd, insH, hx]
     | false => simp [upd, insH, hx, hfa]
   | false =>
     rw [hb, cond_false] at h
     simp only [insH]
     cases hx : Nat.ble i a with
     | true =>
       simp only [cond_true, upd, hb, cond_false, insH, hx]
       rw [acX hne h]
     | false => simp [upd, hfa, hb, insH, hx]
theorem abn {id a : Nat} {x : Blk} {hp : Heap} (h : look hp id ≠ none) (hne : id ≠ a) : look (insH a x hp) id ≠ none := by
 rw [AQ hne]
 exact h
theorem SK {id : Nat} {b' : Blk} : ∀ {bs : List (Nat × Blk)} {hp : Heap}, (∀ p ∈ bs, id ≠ p.1) → look hp id ≠ none → upd (gz bs hp) id b' = gz bs (upd hp id b')
 | [], _, _, _ => rfl
 | (a, x) :: r, hp, h, hl => by
   simp only [gz]
   rw [SK (fun p hp => h p (List.mem_cons_of_mem _ hp)) (abn hl (h (a, x) (by simp))), acX (h (a, x) (by simp)) hl]
section
variable [Inhabited az]
theorem RelL.looks (h : RelL F L st a w) {h' : Heap} (he : ∀ j, Go.Ev.look h' j = Go.Ev.look st.heap j) : RelL F L ⟨st.slots, h'⟩ a w :=
 { h with
   heap := fun id b hb => h.heap id b (by rw [← he]; exact hb)
   inj := fun i j b c l m hi hj => h.inj i j b c l m (by rw [← he]; exact hi) (by rw [← he]; exact hj)
   maps := h.maps.tr _root_.id (fun j b hj _ => ⟨by rw [← he]; exact hj, rfl⟩) (fun _ _ _ _ _ _ _ _ h => h) (fun _ _ _ _ h => h) (fun _ _ _ => rfl) (fun x _ hx => .inl (by
    obtain ⟨j, c, m, hj, hm, hr⟩ := hx
    exact ⟨j, c, m, by rw [← he]; exact hj, hm, hr⟩)) }
end
theorem Aj {v : AV} : ∀ {ns : List Nat}, vZ ns v = true ↔ ∀ d ∈ ns, v.at d = false
 | [] => by simp [vZ]
 | d :: ns => by simp [vZ, Aj (ns := ns)]
theorem Kq {ns : List Nat} : ∀ {bs : List (Nat × Blk)}, zk ns bs = true ↔ ∀ p ∈ bs, ∀ d ∈ ns, p.2.at d = false
 | [] => by simp [zk]
 | (i, b) :: bs => by
   simp only [zk, Bool.and_eq_true, Kq (bs := bs), List.mem_cons, forall_eq_or_imp]
   refine and_congr_left fun _ => ?_
   cases b with
   | map => simp [Blk.at]
   | bld => simp [Blk.at]
   | rows m e t l => simp [Blk.at]
   | mix m e l => rw [Aj]; simp [AV.at, Blk.at]
theorem wY {d : Nat} {x : AV} : TW (some d) (st.put (some d) x) = if d < st.slots.length then x else .undef := by
 simp only [TW, St.put, List.getD_eq_getElem?_getD, List.getElem?_set]
 by_cases h : d < st.slots.length <;> simp [h]
theorem abC {d e : Nat} {x : AV} (h : AV.atAll e st.slots = false) (hx : d < st.slots.length → x.at e = false) : AV.atAll e (st.slots.set d x) = false := by
 rw [kX] at h ⊢
 intro y hy
 rw [List.mem_iff_getElem?] at hy
 obtain ⟨i, hi⟩ := hy
 rw [List.getElem?_set] at hi
 split at hi
 ·split at hi
  ·rename_i hlt
   have := Option.some.inj hi
   subst this
   exact hx hlt
  ·cases hi
 ·exact h y (List.mem_of_getElem? hi)
theorem adB {id : Nat} {b : Blk} {p : Nat × Blk} : ∀ {hp : Heap}, p ∈ insH id b hp → p = (id, b) ∨ p ∈ hp
 | [], h => by simpa [insH] using h
 | (i, c) :: r, h => by
   simp only [insH] at h
   cases hb : Nat.ble i id with
   | true =>
     rw [hb, cond_true] at h
     rcases List.mem_cons.1 h with h | h
     ·exact .inr (by simp [h])
     ·rcases adB h with h | h
      ·exact .inl h
      ·exact .inr (List.mem_cons_of_mem _ h)
   | false =>
     rw [hb, cond_false] at h
     rcases List.mem_cons.1 h with h | h
     ·exact .inl h
     ·exact .inr h
theorem aaT {p : Nat × Blk} : ∀ {bs : List (Nat × Blk)} {hp : Heap}, p ∈ gz bs hp → p ∈ bs ∨ p ∈ hp
 | [], _, h => .inr h
 | (id, b) :: r, hp, h => by
   simp only [gz] at h
   rcases aaT h with h | h
   ·exact .inl (List.mem_cons_of_mem _ h)
   ·rcases adB h with h | h
    ·exact .inl (by simp [h])
    ·exact .inr h
structure MW (ns : List Nat) (dst : Option Tmp) (st : St) (q : List (Nat × Blk) × AV) : Prop where
 site : ∀ p ∈ q.1, p.1 / 64 = dst.getD 0
 blks : ∀ p ∈ q.1, ∀ d ∈ ns, p.2.at d = false
 val : ∀ d ∈ ns, ∀ e, dst = some e → e < st.slots.length → q.2.at d = false
theorem MW.clean {ns : List Nat} {dst : Option Tmp} {q : List (Nat × Blk) × AV} (h : MW ns dst st q) {d : Nat} (hd : d ∈ ns) (hne : d ≠ dst.getD 0) (hc : kQ d st) : kQ d (mkSt st dst q.1 q.2) := by
 constructor
 ·cases dst with
  | none => exact hc.1
  | some e => exact abC (st := ⟨st.slots, gz q.1 st.heap⟩) hc.1 fun hlt => h.val d hd e rfl hlt
 ·have : (mkSt st dst q.1 q.2).heap = gz q.1 st.heap := by cases dst <;> rfl
  rw [this, pW]
  intro p hp
  rcases aaT hp with hp | hp
  ·exact ⟨by rw [h.site p hp]; exact fun e => hne e.symm, h.blks p hp d hd⟩
  ·exact pW.1 hc.2 p hp
theorem Gw {o : Op} (h : pY o = true) : kJ o = false := by
 cases o <;> simp [pY] at h <;> rfl
theorem abP {E : Env α} {ns : List Nat} (h : pY o.op = true) (k : St → Option α) : vK E ns o st k = evOp E o st fun s => bif vZ ns (TW o.dst s) then k s else none := by
 unfold vK
 rw [Gw h, cond_false, h, cond_true]
theorem NJ {ops : Array Oper} {d : Nat} {x : AV} (h : d ∉ qw ops o) : sK ops o (st.put (some d) x) = sK ops o st := by
 unfold sK
 cases hg : o.guard with
 | none => rfl
 | some p =>
   obtain ⟨j, want⟩ := p
   simp only [qw, hg] at h
   have hy : ∀ d', (ops[j]?).bind (·.dst) = some d' → (st.put (some d) x).slots.getD d' .undef = st.slots.getD d' .undef := fun d' hd => by
    rw [hd] at h
    simp only [List.mem_singleton] at h
    simp only [St.put, List.getD_eq_getElem?_getD, List.getElem?_set_ne h]
   simp only [Fv, JY]
   cases hd : (ops[j]?).bind (·.dst) with
   | none => rfl
   | some d' => simp only [Option.bind_some, hy d' hd]
theorem tZ {ops : Array Oper} (h : Heap) : sK ops o ⟨st.slots, h⟩ = sK ops o st := rfl
theorem Jv (v : Value) (id : Nat) : (mW v).names id = false := xZ (d := id / 64) (aaj v _) rfl
theorem EJ {v : AV} {id : Nat} (h : v.names id = false) : iW id v = v := by simp [iW, h]
theorem abM (l : List AV) (id t : Nat) : (l.map (iW id)).getD t .undef = iW id (l.getD t .undef) := by
 simp only [List.getD_eq_getElem?_getD, List.getElem?_map]
 cases l[t]? with
 | none => simp [iW]
 | some x => rfl
theorem ah6 {id : Nat} {h : Heap} (x : Operand) : St.get ⟨st.slots.map (iW id), h⟩ x = iW id (st.get x) := by
 cases x with
 | tmp t => exact abM _ _ _
 | const v => exact (EJ (Jv v id)).symm
 | func f => exact (EJ (by simp [St.get, AV.names, AV.namesAll])).symm
 | global g => exact (EJ (by simp [St.get, AV.names])).symm
theorem agb {ops : Array Oper} (id : Nat) (h : Heap) : sK ops o ⟨st.slots.map (iW id), h⟩ = sK ops o st := by
 unfold sK
 cases hg : o.guard with
 | none => rfl
 | some p =>
   obtain ⟨j, want⟩ := p
   simp only [Fv, JY, abM]
   cases hd : (ops[j]?).bind (·.dst) with
   | none => rfl
   | some d =>
     simp only [Option.bind_some]
     generalize st.slots.getD d .undef = v
     cases hn : v.names id with
     | false => rw [EJ hn]
     | true =>
       have e : iW id v = .undef := by simp [iW, hn]
       rw [e]
       cases v with
       | tup l => cases l with
         | nil => simp [AV.names, AV.namesAll] at hn
         | cons x r => rfl
       | bool b => simp [AV.names] at hn
       | _ => rfl
theorem oK {d : Nat} {v : AV} {x : Operand} {l : List Operand} (h : d ∉ kV l) (hx : x ∈ l) : (st.put (some d) v).get x = st.get x := by
 refine aiX fun hm => h ?_
 clear h
 induction l with
 | nil => simp at hx
 | cons y r ih =>
   rcases List.mem_cons.1 hx with rfl | hx
   ·cases x with
    | tmp t => simp only [kV, List.mem_singleton] at hm ⊢; simp [hm]
    | _ => simp [kV] at hm
   ·have := ih hx
    cases y with
    | tmp t => simp only [kV, List.mem_cons]; exact .inr this
    | _ => simpa only [kV] using this
theorem afm (E : Env α) (o : Oper) : (∀ (st : St) d x, d ∉ kV o.op.operands.toList → IK E o (st.put (some d) x) = IK E o st) ∧ ∀ (st : St) (h : Heap), IK E o ⟨st.slots, h⟩ = IK E o st := by
 constructor
 ·intro st d v hd
  unfold IK
  cases hop : o.op with
  | box t x =>
    rw [hop] at hd
    have : (st.put (some d) v).get x = st.get x := oK hd (by simp [Op.operands])
    simp only [this]
  | buildSlice t len parts =>
    rw [hop] at hd
    have : (parts.toList.map fun (i, x) => (i, (st.put (some d) v).get x)) = parts.toList.map fun (i, x) => (i, st.get x) := by
     refine List.map_congr_left fun p hp => ?_
     have : (st.put (some d) v).get p.2 = st.get p.2 := oK hd (by
      simp only [Op.operands]
      exact List.mem_map.2 ⟨p, hp, rfl⟩)
     simp only [this]
    simp only [this]
  | makeSlice t l c =>
    rw [hop] at hd
    have : (st.put (some d) v).get l = st.get l := oK hd (by simp [Op.operands])
    simp only [this]
  | _ => rfl
 ·intro st h
  unfold IK
  simp only [mJ]
structure Zw (E : Env α) (ops : Array Oper) (ns : List Nat) (o : Oper) (y : St → Option (List (Nat × Blk) × AV)) : Prop where
 form : ∀ st (k : St → Option α), kW E ops ns o st k = (y st).bind fun q => k (mkSt st o.dst q.1 q.2)
 slot : ∀ st d x, d ∉ kV o.op.operands.toList ++ qw ops o → y (st.put (some d) x) = y st
 heap : ∀ (d : Nat) (st : St) (h' : Heap), (∀ x ∈ o.op.operands.toList, (st.get x).at d = false) → (∀ id, id / 64 ≠ d → look h' id = look st.heap id) → y ⟨st.slots, h'⟩ = y st
 sep : ∀ (st : St) (h' : Heap), (∀ x ∈ o.op.operands.toList, ∀ id, (st.get x).names id = true → look h' id = look st.heap id) → y ⟨st.slots, h'⟩ = y st
 free : (gJ o.op || kJ o.op) = true → ∀ (st : St) (h : Heap), y ⟨st.slots, h⟩ = y st
 load : ∀ l, jX o.op l = true → ∀ (st : St) (id : Nat) (b' : Blk), (∀ s ∈ l, ∃ j r c, st.slots.getD s .undef = .ptr j r c ∧ j ≠ id) → y ⟨st.slots, upd st.heap id b'⟩ = y st
 shape : lV o.op = true → ∀ (st : St) (id : Nat) (b b' : Blk), look st.heap id = some b → b'.w = b.w → b'.n = b.n → y ⟨st.slots, upd st.heap id b'⟩ = y st
 kill : pY o.op = true → (gJ o.op || lV o.op) = true → ∀ (st : St) (id : Nat) (h' : Heap), (∀ x ∈ o.op.operands.toList, (st.get x).names id = false) → (∀ j, j ≠ id → ∀ (β : Type) (f : Blk → Option β), (∀ c c' : Blk, c.w = c'.w → c.n = c'.n → f c = f c') → (look h' j).bind f = (look st.heap j).bind f) → y ⟨st.slots.map (iW id), h'⟩ = y st
 made : ∀ st q, y st = some q → MW ns o.dst st q
 none : kJ o.op = false → ∀ st q, y st = some q → q.1 = []
theorem aiO {d : Nat} {x : AV} : (st.put (some d) x).slots.length = st.slots.length := by simp [St.put]
theorem zY (E : Env α) (ops : Array Oper) (ns : List Nat) (o : Oper) (h : oZ o.op = true) {dd : Nat} (hdst : o.dst = some dd) : ∃ y, Zw E ops ns o y := by
 cases hm : kJ o.op with
 | true =>
   obtain ⟨m1, m2⟩ := afm E o
   refine ⟨fun st => (sK ops o st).bind fun g => bif g then (IK E o st).bind fun q => bif vZ ns q.2 && zk ns [(fQ o.dst, q.1)] then some ([(fQ o.dst, q.1)], q.2) else .none else some ([], .tup []), ⟨fun st k => ?_, fun st d x hd => ?_, fun d st h' _ _ => ?_, fun st h' _ => ?_, fun _ st h' => ?_, fun l hl => ?_, fun hsh => ?_, fun hiv => absurd (Gw hiv) (by simp [hm]), fun st q hq => ?_, fun e => ?_⟩⟩
   ·unfold kW
    rw [Option.bind_assoc]
    refine gV fun g => ?_
    cases g with
    | false => rfl
    | true =>
      simp only [cond_true, vK, hm, Option.bind_assoc]
      refine gV fun q => ?_
      rw [dZ]
      rfl
   ·simp only [List.mem_append, not_or] at hd
    simp only [NJ hd.2, m1 _ _ _ hd.1]
   ·simp only [tZ, m2]
   ·simp only [tZ, m2]
   ·simp only [tZ, m2]
   ·generalize o.op = op at hl hm
    cases op <;> simp [jX] at hl <;> simp [kJ] at hm
   ·generalize o.op = op at hsh hm
    cases op <;> simp [lV] at hsh <;> simp [kJ] at hm
   ·rw [Option.bind_eq_some_iff] at hq
    obtain ⟨g, _, hq⟩ := hq
    cases g with
    | false =>
      rw [cond_false] at hq
      have := Option.some.inj hq
      subst this
      exact ⟨by simp, by simp, fun d _ e _ _ => rfl⟩
    | true =>
      rw [cond_true, Option.bind_eq_some_iff] at hq
      obtain ⟨p, _, hq⟩ := hq
      obtain ⟨hc, hq⟩ := ifB hq
      have := Option.some.inj hq
      subst this
      simp only [Bool.and_eq_true] at hc
      refine ⟨fun p hp => ?_, Kq.1 hc.2, fun d hd e _ _ => Aj.1 hc.1 d hd⟩
      simp only [List.mem_singleton] at hp
      subst hp
      unfold fQ
      simp
   ·rw [e] at hm; cases hm
 | false =>
   have hv : pY o.op = true := by
    simp only [oZ, hm, Bool.or_false] at h
    exact h
   obtain ⟨y0, e0, fc0, g0, l0, p0, sg0⟩ := ac4 E o hv
   have f0 : ∀ (st : St) (d : Nat) (x : AV), d ∉ kV o.op.operands.toList → y0 (st.put (some d) x) = y0 st := fun st d x hd => fc0 st _ (fun z hz => oK hd hz) rfl
   have s0 : lV o.op = true → ∀ (st : St) (id : Nat) (b b' : Blk), look st.heap id = some b → b'.w = b.w → b'.n = b.n → y0 ⟨st.slots, upd st.heap id b'⟩ = y0 st := fun hsh st id b b' hb hw hnn => sg0 hsh st _ fun _ _ j _ _ f hf => abu hw hnn hb j f hf
   refine ⟨fun st => (sK ops o st).bind fun g => bif g then (y0 st).bind fun x => bif vZ ns (TW o.dst (st.put o.dst x)) then some ([], x) else .none else some ([], .tup []), ⟨fun st k => ?_, fun st d x hd => ?_, fun d st h' h1 h2 => ?_, fun st h' h1 => ?_, fun hf st h' => ?_, fun l hl st id b' hs => ?_, fun hsh st id b b' hb hw hnn => ?_, fun _ hms st id h' hnm hlk => ?_, fun st q hq => ?_, fun _ st q hq => ?_⟩⟩
   ·unfold kW
    rw [Option.bind_assoc]
    refine gV fun g => ?_
    cases g with
    | false => rfl
    | true =>
      simp only [cond_true, abP hv, e0, Option.bind_assoc]
      refine gV fun x => ?_
      rw [dZ]
      rfl
   ·simp only [List.mem_append, not_or] at hd
    simp only [NJ hd.2, f0 _ _ _ hd.1, hdst, wY, aiO]
   ·have h3 : ∀ x ∈ o.op.operands.toList, ∀ id, (st.get x).names id = true → look h' id = look st.heap id := fun x hx id hid => h2 id fun e => by
     have := xZ (h1 x hx) e
     rw [hid] at this
     cases this
    simp only [tZ, p0 st h' h3, hdst, wY]
   ·simp only [tZ, p0 st h' h1, hdst, wY]
   ·rw [hm, Bool.or_false] at hf
    simp only [tZ, g0 hf, hdst, wY]
   ·simp only [tZ, l0 l hl st id b' hs, hdst, wY]
   ·simp only [tZ, s0 hsh st id b b' hb hw hnn, hdst, wY]
   ·have e1 : y0 ⟨st.slots.map (iW id), h'⟩ = y0 ⟨st.slots, h'⟩ := fc0 ⟨st.slots, h'⟩ ⟨st.slots.map (iW id), h'⟩ (fun x hx => (ah6 x).trans ((EJ (hnm x hx)).trans mJ.symm)) rfl
    have e2 : y0 ⟨st.slots, h'⟩ = y0 st := by
     rw [Bool.or_eq_true] at hms
     rcases hms with hms | hms
     ·exact g0 hms st h'
     ·exact sg0 hms st h' fun x hx j hj β f hf => hlk j (fun e => by
       subst e
       rw [hnm x hx] at hj
       cases hj) β f hf
    have e3 : ∀ v, TW (some dd) (St.put ⟨st.slots.map (iW id), h'⟩ (some dd) v) = TW (some dd) (st.put (some dd) v) := fun v => by
     simp only [wY, List.length_map]
    simp only [agb, e1, e2, hdst, e3]
   ·rw [Option.bind_eq_some_iff] at hq
    obtain ⟨g, _, hq⟩ := hq
    cases g with
    | false =>
      rw [cond_false] at hq
      have := Option.some.inj hq
      subst this
      exact ⟨by simp, by simp, fun d _ e _ _ => rfl⟩
    | true =>
      rw [cond_true, Option.bind_eq_some_iff] at hq
      obtain ⟨x, _, hq⟩ := hq
      obtain ⟨hc, hq⟩ := ifB hq
      have := Option.some.inj hq
      subst this
      refine ⟨by simp, by simp, fun d hd e he hlt => ?_⟩
      rw [he, wY, if_pos hlt] at hc
      exact Aj.1 hc d hd
   ·rw [Option.bind_eq_some_iff] at hq
    obtain ⟨g, _, hq⟩ := hq
    cases g with
    | false =>
      rw [cond_false] at hq
      have := Option.some.inj hq
      subst this
      rfl
    | true =>
      rw [cond_true, Option.bind_eq_some_iff] at hq
      obtain ⟨x, _, hq⟩ := hq
      obtain ⟨_, hq⟩ := ifB hq
      have := Option.some.inj hq
      subst this
      rfl
theorem abJ {da db : Nat} {qa qb : List (Nat × Blk) × AV} (hne : da ≠ db) (hs : ∀ p ∈ qa.1, ∀ q ∈ qb.1, p.1 ≠ q.1) : mkSt (mkSt st (some da) qa.1 qa.2) (some db) qb.1 qb.2 = mkSt (mkSt st (some db) qb.1 qb.2) (some da) qa.1 qa.2 := by
 simp only [mkSt, St.put]
 rw [List.set_comm _ _ hne, Yx hs]
theorem Zw.behind {E : Env α} {ops : Array Oper} {ns ms : List Nat} {y : St → Option (List (Nat × Blk) × AV)} (hy : Zw E ops ns o y) {d : Nat} {q : List (Nat × Blk) × AV} (hd : d ∉ kV o.op.operands.toList ++ qw ops o) (hq : MW ms (some d) st q) (hc : q.1 = [] ∨ kQ d st) : y (mkSt st (some d) q.1 q.2) = y st := by
 unfold mkSt
 rw [hy.slot _ _ _ hd]
 rcases hc with hc | hc
 ·rw [hc]
  rfl
 ·exact hy.heap d st _ (fun x _ => hc.get x) fun id hid => vw fun p hp e => hid (by rw [← e]; exact hq.site p hp)
theorem XY {d : Nat} {ban : List Nat} {h h' : Heap} (hl : ∀ id, id / 64 ≠ d → look h' id = look h id) (hb : ∀ id b, look h id = some b → b.at d = false) : ∀ (n : Nat) (v : AV), v.at d = false → toD ban h' n v = toD ban h n v
 | 0, v, _ => rfl
 | n + 1, v, hv => by
   have all : ∀ (l : List AV), AV.atAll d l = false → allD (toD ban h' n) l = allD (toD ban h n) l := by
    intro l
    induction l with
    | nil => intro _; rfl
    | cons x r ih =>
      intro hx
      simp only [AV.atAll, Bool.or_eq_false_iff] at hx
      simp only [allD, XY hl hb n x hx.1, ih hx.2]
   cases v with
   | agg l => rfl
   | fn f l =>
     simp only [AV.at] at hv
     simp only [toD, all l hv]
   | sl id =>
     simp only [AV.at] at hv
     simp only [toD, hl id (IQ hv)]
     cases hlk : look h id with
     | none => rfl
     | some b =>
       have := hb id b hlk
       cases b with
       | map => first | rfl | (cases h; done) | (simp at h; done) | (simp at *; done)
       | bld => first | rfl | (cases h; done) | (simp at h; done) | (simp at *; done)
       | rows => rfl
       | mix m e l =>
         simp only [Blk.at] at this
         simp only [Option.bind_some, all l this]
   | sub id lo m =>
     simp only [AV.at] at hv
     simp only [toD, hl id (IQ hv)]
   | ptr id r c =>
     simp only [AV.at] at hv
     match r, c with
     | 0, 0 =>
       simp only [toD, hl id (IQ hv)]
       cases hlk : look h id with
       | none => rfl
       | some b =>
         have := hb id b hlk
         cases b with
         | map => first | rfl | (cases h; done) | (simp at h; done) | (simp at *; done)
         | bld => first | rfl | (cases h; done) | (simp at h; done) | (simp at *; done)
         | rows => rfl
         | mix m e l =>
           simp only [Blk.at] at this
           simp only [Option.bind_some, all l this]
     | 0, c + 1 => rfl
     | r + 1, c => rfl
   | _ => rfl
theorem afN {β γ : Type} {x : Option β} {f g : β → Option γ} (h : ∀ b, x = some b → f b = g b) : x.bind f = x.bind g := by
 cases x with
 | none => rfl
 | some b => exact h b rfl
theorem acZ {d : Nat} {ban : List Nat} {h h' : Heap} (hl : ∀ id, id / 64 ≠ d → look h' id = look h id) (hb : ∀ id b, look h id = some b → b.at d = false) (n : Nat) : ∀ (l : List AV), AV.atAll d l = false → allD (toD ban h' n) l = allD (toD ban h n) l
 | [], _ => rfl
 | x :: r, hx => by
   simp only [AV.atAll, Bool.or_eq_false_iff] at hx
   simp only [allD, XY hl hb n x hx.1, acZ hl hb n r hx.2]
theorem agK {d : Nat} {ban : List Nat} {h h' : Heap} (hl : ∀ id, id / 64 ≠ d → look h' id = look h id) (hb : ∀ id b, look h id = some b → b.at d = false) (v : AV) (hv : v.at d = false) : DJ ban h' v = DJ ban h v := by
 unfold DJ
 split
 ·rename_i id
  simp only [AV.at] at hv
  rw [hl id (IQ hv)]
 ·rename_i id
  simp only [AV.at] at hv
  rw [hl id (IQ hv)]
  refine afN fun b hlk => ?_
  have := hb id b hlk
  cases b with
  | map => first | rfl | (cases h; done) | (simp at h; done) | (simp at *; done)
  | bld => first | rfl | (cases h; done) | (simp at h; done) | (simp at *; done)
  | rows => rfl
  | mix m e l =>
    simp only [Blk.at] at this
    have := acZ (ban := ban) hl hb 3 l this
    simp only [this]
 ·rfl
 ·rfl
theorem ZK {d : Nat} {ban : List Nat} {h h' : Heap} (hl : ∀ id, id / 64 ≠ d → look h' id = look h id) (hb : ∀ id b, look h id = some b → b.at d = false) : ∀ (M : List Nat) (vs : List AV), (∀ v ∈ vs, v.at d = false) → oV ban h' M vs = oV ban h M vs
 | M, [], _ => by cases M <;> rfl
 | [], v :: vs, hv => by
   simp only [oV, XY (ban := ban) hl hb 4 v (hv v (by simp)), ZK hl hb [] vs fun x hx => hv x (List.mem_cons_of_mem _ hx)]
 | m :: ms, v :: vs, hv => by
   have ih := ZK (ban := ban) hl hb ms vs fun x hx => hv x (List.mem_cons_of_mem _ hx)
   have h4 := XY (ban := ban) hl hb 4 v (hv v (by simp))
   match m with
   | 1 => simp only [oV, agK hl hb v (hv v (by simp)), ih]
   | 0 => simp only [oV, h4, ih]
   | m + 2 => simp only [oV, h4, ih]
theorem ahG {E : Env α} {dst : Option Tmp} {f : AV} {args : List AV} {h h' : Heap} {d : Nat} (hl : ∀ id, id / 64 ≠ d → look h' id = look h id) (hb : ∀ id b, look h id = some b → b.at d = false) (hf : f.at d = false) (ha : ∀ v ∈ args, v.at d = false) : Ij E dst f args h' = Ij E dst f args h := by
 unfold Ij
 split
 ·rename_i g caps
  simp only [AV.at] at hf
  refine gV fun ids => ?_
  rw [ZK hl hb (E.M g) (args ++ caps) fun v hv => by
   rcases List.mem_append.1 hv with hv | hv
   ·exact ha v hv
   ·exact kX.1 hf v hv]
 ·rfl
theorem abQ {E : Env α} {dst : Option Tmp} {f : AV} {args : List AV} {h : Heap} {p : FuncId × List D × List AV × List Nat} (hp : Ij E dst f args h = some p) :
 ∃ caps, f = .fn p.1 caps ∧ p.2.2.1 = args ++ caps ∧ iQ (E.M p.1) (args ++ caps) = some p.2.2.2 ∧ JK p.2.2.2 = true ∧ Nat.ble E.low (fQ dst) = true ∧ oV p.2.2.2 h (E.M p.1) (args ++ caps) = some p.2.1 := by
 unfold Ij at hp
 split at hp
 ·rename_i g caps
  rw [Option.bind_eq_some_iff] at hp
  obtain ⟨ids, hids, hp⟩ := hp
  obtain ⟨hc, hp⟩ := ifB hp
  rw [Option.map_eq_some_iff] at hp
  obtain ⟨ds, hds, rfl⟩ := hp
  simp only [Bool.and_eq_true] at hc
  exact ⟨caps, rfl, rfl, hids, hc.1, hc.2, hds⟩
 ·cases hp
theorem UJ : ∀ {M : List Nat} {vs : List AV} {ids : List Nat}, iQ M vs = some ids → ∀ id ∈ ids, ∃ v ∈ vs, v.names id = true
 | M, [], ids, h, id, hid => by
   cases M <;> simp only [iQ, Option.some.injEq] at h <;> subst h <;> simp at hid
 | [], v :: vs, ids, h, id, hid => by
   simp only [iQ, Option.some.injEq] at h
   subst h
   simp at hid
 | m :: ms, v :: vs, ids, h, id, hid => by
   have rest : ∀ {is : List Nat}, iQ ms vs = some is → id ∈ is → ∃ x ∈ v :: vs, x.names id = true := fun h hi => by
    obtain ⟨x, hx, hn⟩ := UJ h id hi
    exact ⟨x, by simp [hx], hn⟩
   match m with
   | 1 =>
     simp only [iQ] at h
     split at h
     ·rw [Option.map_eq_some_iff] at h
      obtain ⟨is, h, rfl⟩ := h
      rcases List.mem_cons.1 hid with rfl | hi
      ·exact ⟨.sl id, by simp, by simp only [AV.names, Nat.beq_refl]⟩
      ·exact rest h hi
     ·rw [Option.map_eq_some_iff] at h
      obtain ⟨is, h, rfl⟩ := h
      rcases List.mem_cons.1 hid with rfl | hi
      ·exact ⟨.ptr id 0 0, by simp, by simp only [AV.names, Nat.beq_refl]⟩
      ·exact rest h hi
     ·exact rest h hid
     ·cases h
   | 0 => simp only [iQ] at h; exact rest h hid
   | m + 2 => simp only [iQ] at h; exact rest h hid
theorem aes : ∀ {ids : List Nat} {ds : List D} {h h' : Heap}, Go.Ev.back h ids ds = some h' → ∀ j, j ∉ ids → look h' j = look h j
 | [], [], h, h', e, j, _ => by
   simp only [Go.Ev.back, Option.some.injEq] at e
   rw [e]
 | id :: ids, d :: ds, h, h', e, j, hj => by
   simp only [Go.Ev.back, Option.bind_eq_some_iff] at e
   obtain ⟨h1, e1, e⟩ := e
   simp only [Kv, Option.bind_eq_some_iff, Option.map_eq_some_iff] at e1
   obtain ⟨b, hb, b', hb', rfl⟩ := e1
   simp only [List.mem_cons, not_or] at hj
   rw [aes e j hj.2, PK hj.1]
 | [], _ :: _, h, h', e, _, _ => by simp [Go.Ev.back] at e
 | _ :: _, [], h, h', e, _, _ => by simp [Go.Ev.back] at e
theorem agi {bs : List (Nat × Blk)} : ∀ {ids : List Nat} {ds : List D} {h : Heap}, (∀ p ∈ bs, ∀ id ∈ ids, id ≠ p.1) → Go.Ev.back (gz bs h) ids ds = (Go.Ev.back h ids ds).map (gz bs)
 | [], [], h, _ => rfl
 | id :: ids, d :: ds, h, hn => by
   have hlk : look (gz bs h) id = look h id := vw fun p hp e => hn p hp id (by simp) e.symm
   simp only [Go.Ev.back, Kv, hlk]
   cases hb : look h id with
   | none => rfl
   | some b =>
     simp only [Option.bind_some]
     cases hu : upd1 b d with
     | none => rfl
     | some b' =>
       simp only [Option.map_some, Option.bind_some]
       rw [SK (fun p hp => hn p hp id (by simp)) (by rw [hb]; simp)]
       exact agi fun p hp j hj => hn p hp j (by simp [hj])
 | [], _ :: _, h, _ => rfl
 | _ :: _, [], h, _ => rfl
theorem ael {id : Nat} {b : Blk} : ∀ {h : Heap}, look h id ≠ none → (upd h id b).length = h.length
 | [], hn => by simp [look] at hn
 | (j, c) :: r, hn => by
   simp only [upd]
   simp only [look] at hn
   cases hj : Nat.beq j id with
   | true => rfl
   | false =>
     rw [hj, cond_false] at hn
     simp [ael hn]
theorem ag6 : ∀ {ids : List Nat} {ds : List D} {h h' : Heap}, Go.Ev.back h ids ds = some h' → h'.length = h.length
 | [], [], h, h', e => by
   simp only [Go.Ev.back, Option.some.injEq] at e
   rw [e]
 | id :: ids, d :: ds, h, h', e => by
   simp only [Go.Ev.back, Option.bind_eq_some_iff] at e
   obtain ⟨h1, e1, e⟩ := e
   simp only [Kv, Option.bind_eq_some_iff, Option.map_eq_some_iff] at e1
   obtain ⟨b, hb, b', hb', rfl⟩ := e1
   rw [ag6 e, ael (by rw [hb]; simp)]
 | [], _ :: _, h, h', e => by simp [Go.Ev.back] at e
 | _ :: _, [], h, h', e => by simp [Go.Ev.back] at e
theorem ad5 {d : D} {v : AV} {x : Nat} (h : lK d = some v) : v.at x = false := by
 cases d <;> simp [lK] at h <;> subst h <;> rfl
theorem NZ {x : Nat} : ∀ {vs us : List AV} {ds : List D}, lY vs ds = some us → AV.atAll x vs = false → AV.atAll x us = false
 | [], us, [], h, _ => by
   simp only [lY, Option.some.injEq] at h
   subst h
   rfl
 | [], us, _ :: _, h, _ => by simp [lY] at h
 | _ :: _, us, [], h, _ => by simp [lY] at h
 | v :: vs, us, d :: ds, h, hv => by
   simp only [AV.atAll, Bool.or_eq_false_iff] at hv
   simp only [lY] at h
   split at h
   ·rw [Option.map_eq_some_iff] at h
    obtain ⟨us', h, rfl⟩ := h
    simp only [AV.atAll, hv.1, NZ h hv.2, Bool.or_self]
   ·rw [Option.bind_eq_some_iff] at h
    obtain ⟨u, hu, h⟩ := h
    rw [Option.map_eq_some_iff] at h
    obtain ⟨us', h, rfl⟩ := h
    simp only [AV.atAll, ad5 hu, NZ h hv.2, Bool.or_self]
theorem ai7 {b b' : Blk} {d : D} {x : Nat} (h : upd1 b d = some b') (hb : b.at x = false) : b'.at x = false := by
 unfold upd1 at h
 split at h
 ·split at h
  ·have := Option.some.inj h
   subst this
   rfl
  ·cases h
 ·rw [Option.bind_eq_some_iff] at h
  obtain ⟨vs, _, h⟩ := h
  obtain ⟨_, h⟩ := ifB h
  rw [Option.map_eq_some_iff] at h
  obtain ⟨l', _, rfl⟩ := h
  rfl
 ·rw [Option.map_eq_some_iff] at h
  obtain ⟨vs, h, rfl⟩ := h
  simp only [Blk.at] at hb ⊢
  exact NZ h hb
 ·cases h
theorem ac1 {id : Nat} {b : Blk} {p : Nat × Blk} : ∀ {h : Heap}, p ∈ upd h id b → p = (id, b) ∨ p ∈ h
 | [], hp => by
   simp only [upd, List.mem_singleton] at hp
   exact .inl hp
 | (j, c) :: r, hp => by
   simp only [upd] at hp
   cases hj : Nat.beq j id with
   | true =>
     rw [hj, cond_true] at hp
     rcases List.mem_cons.1 hp with h | h
     ·exact .inl h
     ·exact .inr (by simp [h])
   | false =>
     rw [hj, cond_false] at hp
     rcases List.mem_cons.1 hp with h | h
     ·exact .inr (by simp [h])
     ·rcases ac1 h with h | h
      ·exact .inl h
      ·exact .inr (by simp [h])
theorem Sv {d : Nat} {sl : List AV} : ∀ {ids : List Nat} {ds : List D} {h h' : Heap}, Go.Ev.back h ids ds = some h' → kQ d ⟨sl, h⟩ → kQ d ⟨sl, h'⟩
 | [], [], h, h', e, hc => by
   simp only [Go.Ev.back, Option.some.injEq] at e
   rw [← e]
   exact hc
 | id :: ids, dd :: ds, h, h', e, hc => by
   simp only [Go.Ev.back, Option.bind_eq_some_iff] at e
   obtain ⟨h1, e1, e⟩ := e
   simp only [Kv, Option.bind_eq_some_iff, Option.map_eq_some_iff] at e1
   obtain ⟨b, hb, b', hb', rfl⟩ := e1
   refine Sv e ⟨hc.1, pW.2 fun p hp => ?_⟩
   have hbk := hc.blk (st := ⟨sl, h⟩) hb
   rcases ac1 hp with rfl | hp
   ·exact ⟨hbk.1, ai7 hb' hbk.2⟩
   ·exact pW.1 hc.2 p hp
 | [], _ :: _, h, h', e, _ => by simp [Go.Ev.back] at e
 | _ :: _, [], h, h', e, _ => by simp [Go.Ev.back] at e
theorem Iq {st : St} {id : Nat} : ∀ {L : List Nat}, Fz.freeOf1 st id L = true ↔ ∀ s ∈ L, (st.slots.getD s .undef).names id = false
 | [] => by simp [Fz.freeOf1]
 | s :: r => by
   simp only [Fz.freeOf1, Bool.and_eq_true, Bool.not_eq_true', Iq, List.mem_cons, forall_eq_or_imp]
theorem SY {st : St} {L : List Nat} : ∀ {ids : List Nat}, Fz st ids L = true ↔ ∀ id ∈ ids, ∀ s ∈ L, (st.slots.getD s .undef).names id = false
 | [] => by simp [Fz]
 | id :: r => by
   simp only [Fz, Bool.and_eq_true, Iq, SY, List.mem_cons, forall_eq_or_imp]
theorem Ux {b : Oper} (h : wZ b.op = true) : ∃ c f, b.op = .call c ∧ c.callee = .value f ∧ b.op.operands.toList = f :: c.args.toList ∧ kJ b.op = false := by
 unfold wZ at h
 split at h
 ·rename_i c hop
  split at h
  ·rename_i f hcal
   exact ⟨c, f, hop, hcal, by rw [hop]; simp [Op.operands, Call.operands, hcal], by rw [hop]; rfl⟩
  ·cases h
 ·cases h
theorem WY (E : Env α) (ops : Array Oper) (ns : List Nat) {b : Oper} {c : Call} {f : Operand} (hop : b.op = .call c) (hcal : c.callee = .value f) (st : St) (k : St → Option α) : kW E ops ns b st k = (sK ops b st).bind fun g => bif g then (Ij E b.dst (st.get f) (c.args.toList.map st.get) st.heap).bind fun p => E.C p.1 p.2.1 fun r => (Go.Ev.back st.heap p.2.2.2 r.outs).bind fun h => (TQ p.2.2.1 (fQ b.dst) r).bind fun q => bif vZ ns q.2 && zk ns q.1 then k (mkSt ⟨st.slots, h⟩ b.dst q.1 q.2) else none else k (st.put b.dst (.tup [])) := by
 unfold kW vK
 have h1 : kJ b.op = false := by rw [hop]; rfl
 have h2 : pY b.op = false := by rw [hop]; simp [pY, hcal]
 have h3 : wZ b.op = true := by rw [hop]; simp [wZ, hcal]
 simp only [h1, h2, h3, cond_false, cond_true]
 simp only [hop, hcal, abz]
theorem acQ {n m : Nat} {d : D} {bs : List (Nat × Blk)} {v : AV} (h : impC n d = some (bs, v, m)) : n ≤ m ∧ (∀ p ∈ bs, n ≤ p.1 ∧ p.1 < m) ∧ ∀ hp, (∀ i, n ≤ i → i < m → look hp i = none) → nV bs hp := by
 cases d with
 | sl e t l =>
   simp only [impC, Option.some.injEq, Prod.mk.injEq] at h
   obtain ⟨rfl, rfl, rfl⟩ := h
   exact ⟨by omega, by simp, fun hp hl => ⟨hl n (by omega) (by omega), by simp, trivial⟩⟩
 | _ =>
   simp only [impC, Option.map_eq_some_iff, Prod.mk.injEq] at h
   obtain ⟨_, _, rfl, rfl, rfl⟩ := h
   exact ⟨by omega, by simp, fun _ _ => trivial⟩
theorem nV.app {as bs : List (Nat × Blk)} {hp : Heap} (h1 : nV as hp) (h2 : nV bs hp) (h3 : ∀ p ∈ as, ∀ q ∈ bs, p.1 ≠ q.1) : nV (as ++ bs) hp := by
 induction as with
 | nil => exact h2
 | cons p as ih =>
   obtain ⟨a, b, c⟩ := h1
   refine ⟨a, fun q hq => ?_, ih c fun x hx => h3 x (List.mem_cons_of_mem _ hx)⟩
   rcases List.mem_append.1 hq with hq | hq
   ·exact b q hq
   ·exact fun e => h3 p (by simp) q hq e.symm
theorem OX : ∀ {ds : List D} {n m : Nat} {bs : List (Nat × Blk)} {vs : List AV}, JQ n ds = some (bs, vs, m) → n ≤ m ∧ (∀ p ∈ bs, n ≤ p.1 ∧ p.1 < m) ∧ ∀ hp, (∀ i, n ≤ i → i < m → look hp i = none) → nV bs hp
 | [], n, m, bs, vs, h => by
   simp only [JQ, Option.some.injEq, Prod.mk.injEq] at h
   obtain ⟨rfl, rfl, rfl⟩ := h
   exact ⟨by omega, by simp, fun _ _ => trivial⟩
 | d :: ds, n, m, bs, vs, h => by
   simp only [JQ, Option.bind_eq_some_iff, Option.map_eq_some_iff, Prod.mk.injEq] at h
   obtain ⟨⟨b1, v1, m1⟩, h1, ⟨b2, v2, m2⟩, h2, rfl, rfl, rfl⟩ := h
   obtain ⟨g1, g2, g3⟩ := acQ h1
   obtain ⟨k1, k2, k3⟩ := OX h2
   simp only at *
   refine ⟨by omega, fun p hp => ?_, fun hp hl => nV.app (g3 hp fun i a b => hl i a (by omega)) (k3 hp fun i a b => hl i (by omega) b) fun p hp q hq => ?_⟩
   ·rcases List.mem_append.1 hp with hp | hp
    ·have := g2 p hp; omega
    ·have := k2 p hp; omega
   ·have := g2 p hp
    have := k2 q hq
    omega
theorem ahO {avs : List AV} {n m : Nat} {d : D} {bs : List (Nat × Blk)} {v : AV} (h : imp1 avs n d = some (bs, v, m)) : n ≤ m ∧ (∀ p ∈ bs, n ≤ p.1 ∧ p.1 < m) ∧ ∀ hp, (∀ i, n ≤ i → i < m → look hp i = none) → nV bs hp := by
 cases d with
 | agg l =>
   simp only [imp1, Option.map_eq_some_iff, Prod.mk.injEq] at h
   obtain ⟨⟨b1, v1, m1⟩, h1, rfl, rfl, rfl⟩ := h
   exact OX h1
 | ptr e l =>
   simp only [imp1, Option.map_eq_some_iff, Prod.mk.injEq] at h
   obtain ⟨⟨b1, v1, m1⟩, h1, rfl, rfl, rfl⟩ := h
   obtain ⟨g1, g2, g3⟩ := OX h1
   simp only at *
   refine ⟨by omega, fun p hp => ?_, fun hp hl => nV.app (g3 hp fun i a b => hl i a (by omega)) ⟨hl m1 (by omega) (by omega), by simp, trivial⟩ fun p hp q hq => ?_⟩
   ·rcases List.mem_append.1 hp with hp | hp
    ·have := g2 p hp; omega
    ·simp only [List.mem_singleton] at hp
     subst hp
     simp only
     omega
   ·simp only [List.mem_singleton] at hq
    subst hq
    have := g2 p hp
    simp only
    omega
 | same j =>
   simp only [imp1, Option.map_eq_some_iff, Prod.mk.injEq] at h
   obtain ⟨_, _, rfl, rfl, rfl⟩ := h
   exact ⟨by omega, by simp, fun _ _ => trivial⟩
 | _ => (unfold imp1 at h; exact acQ h)
theorem OJ {avs : List AV} : ∀ {ds : List D} {n m : Nat} {bs : List (Nat × Blk)} {vs : List AV}, KJ avs n ds = some (bs, vs, m) → n ≤ m ∧ (∀ p ∈ bs, n ≤ p.1 ∧ p.1 < m) ∧ ∀ hp, (∀ i, n ≤ i → i < m → look hp i = none) → nV bs hp
 | [], n, m, bs, vs, h => by
   simp only [KJ, Option.some.injEq, Prod.mk.injEq] at h
   obtain ⟨rfl, rfl, rfl⟩ := h
   exact ⟨by omega, by simp, fun _ _ => trivial⟩
 | d :: ds, n, m, bs, vs, h => by
   simp only [KJ, Option.bind_eq_some_iff, Option.map_eq_some_iff, Prod.mk.injEq] at h
   obtain ⟨⟨b1, v1, m1⟩, h1, ⟨b2, v2, m2⟩, h2, rfl, rfl, rfl⟩ := h
   obtain ⟨g1, g2, g3⟩ := ahO h1
   obtain ⟨k1, k2, k3⟩ := OJ h2
   simp only at *
   refine ⟨by omega, fun p hp => ?_, fun hp hl => nV.app (g3 hp fun i a b => hl i a (by omega)) (k3 hp fun i a b => hl i (by omega) b) fun p hp q hq => ?_⟩
   ·rcases List.mem_append.1 hp with hp | hp
    ·have := g2 p hp; omega
    ·have := k2 p hp; omega
   ·have := g2 p hp
    have := k2 q hq
    omega
theorem adI {avs : List AV} {n : Nat} {r : Res} {q : List (Nat × Blk) × AV} (h : TQ avs n r = some q) : ∃ vs m, KJ avs n r.rs = some (q.1, vs, m) ∧ m ≤ n + 64 ∧ q.2 = IX vs := by
 unfold TQ at h
 rw [Option.bind_eq_some_iff] at h
 obtain ⟨⟨bs, vs, m⟩, h1, h⟩ := h
 obtain ⟨hc, h⟩ := ifB h
 have := Option.some.inj h
 subst this
 exact ⟨vs, m, h1, Nat.le_of_ble_eq_true hc, rfl⟩
theorem ab9 {avs : List AV} {ms : List Nat} {b : Oper} {r : Res} {q : List (Nat × Blk) × AV} (h : TQ avs (fQ b.dst) r = some q) (hc : (vZ ms q.2 && zk ms q.1) = true) : MW ms b.dst st q := by
 obtain ⟨vs, m, h1, hm, _⟩ := adI h
 obtain ⟨_, g2, _⟩ := OJ h1
 simp only [Bool.and_eq_true] at hc
 refine ⟨fun p hp => ?_, Kq.1 hc.2, fun d hd e _ _ => Aj.1 hc.1 d hd⟩
 have := g2 p hp
 unfold fQ at this hm
 omega
theorem aiI {ops : Array Oper} {na nb : List Nat} {a b : Oper} (h : yZ ops a b = true) {st : St} (hca : kJ a.op = true → kQ (jW a) st) (hcb : nJ b.op = true → kQ (jW b) st) {k : St → Option α}
 (hk : (kW E ops na a st fun s => kW E ops nb b s k) = some r) : (kW E ops nb b st fun s => kW E ops na a s k) = some r := by
 simp only [yZ, Bool.and_eq_true] at h
 obtain ⟨⟨ha, hb⟩, h⟩ := h
 split at h
 ·rename_i da db hda hdb
  simp only [Bool.and_eq_true, Bool.not_eq_true'] at h
  have hne := gW h.1
  have h1 := kz h.2.1
  have h2 := kz h.2.2
  have ea : jW a = da := by simp [jW, hda]
  have eb : jW b = db := by simp [jW, hdb]
  rw [ea] at hca
  rw [eb] at hcb
  obtain ⟨ya, fa⟩ := zY E ops na a ha hda
  rw [fa.form, Option.bind_eq_some_iff] at hk
  obtain ⟨qa, hqa, hk⟩ := hk
  have ma := fa.made st qa hqa
  rw [hda] at hk ma
  have hqc : qa.1 = [] ∨ kQ da st := by
   cases hm : kJ a.op with
   | true => exact .inr (hca hm)
   | false => exact .inl (fa.none hm st qa hqa)
  obtain ⟨yb, fb⟩ := zY E ops nb b hb hdb
  rw [fb.form, fb.behind h1 ma hqc, Option.bind_eq_some_iff] at hk
  obtain ⟨qb, hqb, hk⟩ := hk
  have mb := fb.made st qb hqb
  rw [hdb] at hk mb
  have hqcb : qb.1 = [] ∨ kQ db st := by
   cases hm : kJ b.op with
   | true => exact .inr (hcb (by simp [nJ, hm]))
   | false => exact .inl (fb.none hm st qb hqb)
  rw [fb.form, hqb, Option.bind_some, hdb, fa.form, fa.behind h2 mb hqcb, hqa, Option.bind_some, hda, ← abJ hne]
  ·exact hk
  ·intro p hp q hq e
   have s1 := ma.site p hp
   have s2 := mb.site q hq
   simp only [Option.getD_some] at s1 s2
   rw [e, s2] at s1
   exact hne s1.symm
 ·cases h
def evI (E : Env α) (ops : Array Oper) (i : Nat) (o : Oper) (st : St) (k : St → Option α) : Option α := bif chkQ E ops i o st then kW E ops (kK ops i) o st k else none
theorem ah5 {d : Nat} {x : AV} (h : st.slots.getD d .undef = x) (hx : x ≠ .undef) : st.put (some d) x = st := by
 simp only [St.put]
 have : st.slots.set d x = st.slots := by
  apply List.ext_getElem?
  intro i
  rw [List.getElem?_set]
  split
  ·rename_i e
   subst e
   rw [List.getD_eq_getElem?_getD] at h
   cases hd : st.slots[d]? with
   | none => rw [hd] at h; exact absurd h.symm hx
   | some y =>
     rw [hd] at h
     simp only [Option.getD_some] at h
     subst h
     have := (List.getElem?_eq_some_iff.1 hd).1
     simp [this]
  ·rfl
 rw [this]
theorem ahj (E : Env α) (ops : Array Oper) (ns : List Nat) (o : Oper) (st : St) (k : St → Option α) : afe E ops ns o st k = kW E ops ns o st k := by
 unfold afe kW sK
 cases hg : o.guard with
 | none => rfl
 | some p =>
   obtain ⟨j, want⟩ := p
   simp only
   cases hy : Fv ops j st with
   | none => simp only; cases JY ops j st <;> rfl
   | some q =>
     obtain ⟨d, b⟩ := q
     have hs : st.slots.getD d .undef = .bool b := by
      unfold Fv at hy
      rw [Option.bind_eq_some_iff] at hy
      obtain ⟨d', hd', hy⟩ := hy
      split at hy
      ·rename_i b' hb
       simp only [Option.some.injEq, Prod.mk.injEq] at hy
       obtain ⟨rfl, rfl⟩ := hy
       exact hb
      ·cases hy
     have hp := ah5 hs (by intro e; cases e)
     cases b <;> cases want <;> simp [hp]
theorem Sz {E : Env α} {ops : Array Oper} {i : Nat} {oi : Oper} (hi : ops[i]? = some oi) {l : List Nat} {st : St} {k : St → Option α} : Bv E ops (i :: l) st k = evI E ops i oi st fun s => Bv E ops l s k := by
 simp only [Bv, hi, evI, ahj]
theorem oW {x s : Nat} : ∀ {L : List Nat}, s ∈ rmN x L ↔ s ∈ L ∧ s ≠ x
 | [] => by simp [rmN]
 | y :: r => by
   simp only [rmN]
   cases hb : Nat.beq x y with
   | true =>
     have := ay hb
     subst this
     rw [cond_true, oW]
     simp only [List.mem_cons]
     constructor
     ·rintro ⟨h, hne⟩; exact ⟨.inr h, hne⟩
     ·rintro ⟨h | h, hne⟩
      ·exact absurd h hne
      ·exact ⟨h, hne⟩
   | false =>
     have hne := gW hb
     rw [cond_false]
     simp only [List.mem_cons, oW]
     constructor
     ·rintro (h | ⟨h, h2⟩)
      ·subst h; exact ⟨.inl rfl, fun e => hne e.symm⟩
      ·exact ⟨.inr h, h2⟩
     ·rintro ⟨h | h, h2⟩
      ·exact .inl h
      ·exact .inr ⟨h, h2⟩
theorem aaS {ops : Array Oper} {j s : Nat} {L : List Nat} : s ∈ Aq ops j L ↔ s ∈ L ∧ (ops[j]?).bind (·.dst) ≠ some s := by
 unfold Aq
 split
 ·rename_i x hx
  rw [oW, hx]
  simp only [ne_eq, Option.some.injEq]
  constructor
  ·rintro ⟨h1, h2⟩; exact ⟨h1, fun e => h2 e.symm⟩
  ·rintro ⟨h1, h2⟩; exact ⟨h1, fun e => h2 e.symm⟩
 ·rename_i hx
  rw [hx]; simp
theorem adx {o : Op} {L L' : List Nat} (h : jX o L = true) (hs : ∀ s ∈ L, s ∈ L') : jX o L' = true := by
 unfold jX at h ⊢
 split at h
 ·rename_i t x
  split at h
  ·rename_i s
   exact mY.2 (hs _ (mY.1 h))
  ·cases h
 ·cases h
theorem acA {ops : Array Oper} {a b : Oper} {L L' : List Nat} (h : tX ops L a b = true) (hs : ∀ s ∈ L, s ∈ L') : tX ops L' a b = true := by
 unfold tX at h ⊢
 split at h
 ·split at h
  ·rename_i x hx hy
   simp only [Bool.and_eq_true, Bool.or_eq_true] at h ⊢
   refine ⟨h.1, h.2.1, ?_⟩
   rcases h.2.2 with h2 | h2
   ·exact .inl h2
   ·exact .inr (adx h2 fun s h3 => oW.2 ⟨hs s (oW.1 h3).1, (oW.1 h3).2⟩)
  ·cases h
 ·cases h
theorem ab4 {l m m' : List Nat} (h : subN l m = true) (hs : ∀ s ∈ m, s ∈ m') : subN l m' = true := by
 induction l with
 | nil => rfl
 | cons x r ih =>
   simp only [subN, Bool.and_eq_true] at h ⊢
   exact ⟨mY.2 (hs x (mY.1 h.1)), ih h.2⟩
theorem acp {ops : Array Oper} {a b : Oper} {L L' : List Nat} (h : pJ ops L a b = true) (hs : ∀ s ∈ L, s ∈ L') : pJ ops L' a b = true := by
 unfold pJ at h ⊢
 rw [Bool.and_eq_true] at h ⊢
 refine ⟨h.1, ?_⟩
 have h2 := h.2
 split at h2
 ·rename_i x y hx hy
  rw [Bool.and_eq_true] at h2
  rw [Bool.and_eq_true]
  refine ⟨h2.1, ?_⟩
  rw [Bool.or_eq_true] at h2 ⊢
  rcases h2.2 with h3 | h3
  ·exact .inl h3
  ·exact .inr (ab4 h3 fun s h4 => oW.2 ⟨hs s (oW.1 h4).1, (oW.1 h4).2⟩)
 ·cases h2
def evIL (E : Env α) (ops : Array Oper) (L : List Nat) (i : Nat) (o : Oper) (st : St) (k : St → Option α) : Option α := bif chkL E L o st then kW E ops (kK ops i) o st k else none
theorem acB {E : Env α} {L : List Nat} (h : oZ o.op = true) : chkL E L o st = true := by
 unfold chkL
 split
 ·rename_i hop
  simp [hop, oZ, pY, kJ] at h
 ·rename_i c hop
  split
  ·rename_i f hcal
   simp [hop, oZ, pY, kJ, hcal] at h
  ·rename_i bu hcal
   split
   ·simp [hop, oZ, pY, kJ, hcal] at h
   ·rfl
  ·rfl
 ·rfl
theorem PX {id : Nat} : ∀ {l : List Nat}, Gx st id l = true → ∀ s ∈ l, ∃ j r c, st.slots.getD s .undef = .ptr j r c ∧ j ≠ id
 | [], _, s, hs => by simp at hs
 | x :: l, h, s, hs => by
   simp only [Gx, Bool.and_eq_true] at h
   rcases List.mem_cons.1 hs with rfl | hs
   ·have h1 := h.1
    split at h1
    ·rename_i j r c he
     exact ⟨j, r, c, he, fun e => by subst e; simp at h1⟩
    ·cases h1
   ·exact PX h.2 s hs
theorem ab6 {id : Nat} : ∀ {l : List Nat}, (∀ s ∈ l, ∃ j r c, st.slots.getD s .undef = .ptr j r c ∧ j ≠ id) → Gx st id l = true
 | [], _ => rfl
 | x :: l, h => by
   obtain ⟨j, r, c, e, hne⟩ := h x (by simp)
   have ih : Gx st id l = true := ab6 fun s hs => h s (List.mem_cons_of_mem _ hs)
   have hb : Nat.beq j id = false := by
    cases hb : Nat.beq j id with
    | false => rfl
    | true => exact absurd (ay hb) hne
   simp only [Gx, e, ih, hb]
   rfl
theorem aaw {E : Env α} {ns : List Nat} {b : Oper} {t : TypeId} {ad v : Operand} (hop : b.op = .store t ad v) (st : St) (k : St → Option α) : vK E ns b st k = bif vZ ns (st.get v) then evOp E b st k else none := by
 unfold vK
 rw [hop]
 rfl
theorem ahw {ops : Array Oper} {i : Nat} {na : List Nat} {a b : Oper} {L : List Nat} (h : tX ops L a b = true) {st : St} (hca : kJ a.op = true → kQ (jW a) st) {k : St → Option α} {da : Nat} (hda : a.dst = some da) (hk : (kW E ops na a st fun s => evIL E ops L i b s k) = some r) : (evIL E ops (rmN da L) i b st fun s => kW E ops na a s k) = some r := by
 unfold tX at h
 split at h
 ·rename_i t ad v hop
  split at h
  ·rename_i da' hda' hdb
   rw [hda] at hda'
   have hdd := Option.some.inj hda'
   subst hdd
   simp only [Bool.and_eq_true, Bool.not_eq_true'] at h
   obtain ⟨h1, ha, h2⟩ := h
   have h1 := kz h1
   simp only [List.mem_append, not_or] at h1
   obtain ⟨h1, hgt⟩ := h1
   have hops : b.op.operands.toList = [ad, v] := by rw [hop]; simp [Op.operands]
   rw [hops] at h1
   have ea : jW a = da := by simp [jW, hda]
   rw [ea] at hca
   obtain ⟨ya, fa⟩ := zY E ops na a ha hda
   rw [fa.form, Option.bind_eq_some_iff] at hk
   obtain ⟨qa, hqa, hk⟩ := hk
   have ma := fa.made st qa hqa
   rw [hda] at hk ma
   have hqc : qa.1 = [] ∨ kQ da st := by
    cases hm : kJ a.op with
    | true => exact .inr (hca hm)
    | false => exact .inl (fa.none hm st qa hqa)
   unfold evIL at hk ⊢
   have hst : mkSt st (some da) qa.1 qa.2 = St.put ⟨st.slots, gz qa.1 st.heap⟩ (some da) qa.2 := rfl
   have gad : (mkSt st (some da) qa.1 qa.2).get ad = st.get ad := by rw [hst, oK h1 (by simp), mJ]
   have gv : (mkSt st (some da) qa.1 qa.2).get v = st.get v := by rw [hst, oK h1 (by simp), mJ]
   have hchk : chkL E L b (mkSt st (some da) qa.1 qa.2) = true → chkL E (rmN da L) b st = true := fun hc => by
    simp only [chkL, hop] at hc ⊢
    cases hL' : rmN da L with
    | nil => rfl
    | cons s l =>
      simp only [gad] at hc ⊢
      cases hL : L with
      | nil => rw [hL] at hL'; simp [rmN] at hL'
      | cons s0 l0 =>
        rw [hL] at hc
        cases had : st.get ad with
        | ptr id r c =>
          rw [had] at hc
          simp only at hc ⊢
          refine ab6 fun x hx => ?_
          have hx2 : x ∈ rmN da L := by rw [hL']; exact hx
          obtain ⟨hx3, hne⟩ := oW.1 hx2
          obtain ⟨j, r', c', e, hj⟩ := PX hc x (by rw [← hL]; exact hx3)
          refine ⟨j, r', c', ?_, hj⟩
          rw [← e]
          simp only [mkSt, St.put, List.getD_eq_getElem?_getD, List.getElem?_set_ne (Ne.symm hne)]
        | _ => rw [had] at hc; simp at hc
   obtain ⟨hc, hk⟩ := ifB hk
   have hc := hchk hc
   rw [hc, cond_true]
   unfold kW at hk
   rw [hst, NJ hgt, tZ, ← hst, Option.bind_eq_some_iff] at hk
   obtain ⟨g, hg, hk⟩ := hk
   unfold kW
   rw [hg, Option.bind_some]
   have back : ∀ s : St, ya s = some qa → kW E ops na a s k = k (mkSt s (some da) qa.1 qa.2) := fun s hs => by rw [fa.form, hs, hda]; rfl
   cases g with
   | false =>
     rw [cond_false] at hk ⊢
     rw [hdb] at hk ⊢
     show kW E ops na a st k = some r
     rw [back st hqa]
     exact hk
   | true =>
     rw [cond_true] at hk ⊢
     rw [aaw hop] at hk ⊢
     rw [gv] at hk
     obtain ⟨hv, hk⟩ := ifB hk
     rw [hv, cond_true]
     simp only [evOp, hop] at hk ⊢
     rw [gad, gv] at hk
     cases had : st.get ad with
     | ptr id row col =>
       rw [had] at hk
       simp only at hk ⊢
       have hlk : look (mkSt st (some da) qa.1 qa.2).heap id = look st.heap id := by
        show look (gz qa.1 st.heap) id = _
        rcases hqc with hqc | hqc
        ·rw [hqc]; rfl
        ·refine vw fun p hp e => ?_
         have s1 := ma.site p hp
         have s2 := hqc.get ad
         rw [had] at s2
         simp only [AV.at] at s2
         rw [e] at s1
         simp only [Option.getD_some] at s1
         exact IQ s2 s1
       rw [hlk, Option.bind_eq_some_iff] at hk
       obtain ⟨bl, hbl, hk⟩ := hk
       rw [Option.bind_eq_some_iff] at hk
       obtain ⟨n, hn, hk⟩ := hk
       obtain ⟨hl, hk⟩ := ifB hk
       rw [Kw, Option.bind_eq_some_iff] at hk
       obtain ⟨b', hb', hk⟩ := hk
       rw [hbl, Option.bind_some, hn, Option.bind_some, hl, cond_true, Kw, hb', Option.bind_some]
       rw [hdb] at hk ⊢
       show kW E ops na a ⟨st.slots, upd st.heap id b'⟩ k = some r
       have hy : ya ⟨st.slots, upd st.heap id b'⟩ = some qa := by
        rw [← hqa]
        simp only [Bool.or_eq_true] at h2
        rcases h2 with (h2 | h2) | h2
        ·exact fa.free (by simpa using h2) st _
        ·have := adY hb'
         exact fa.shape h2 st id bl b' hbl this.1 this.2
        ·refine fa.load _ h2 st id b' (PX ?_)
         simp only [chkL, hop] at hc
         cases hcs : rmN da L with
         | nil => rfl
         | cons s l =>
           rw [hcs] at hc
           simp only [had] at hc
           exact hc
       rw [back _ hy]
       have hu : upd (gz qa.1 st.heap) id b' = gz qa.1 (upd st.heap id b') := by
        refine SK (fun p hp e => ?_) (by rw [hbl]; simp)
        rcases hqc with hqc | hqc
        ·rw [hqc] at hp; simp at hp
        ·have s1 := ma.site p hp
         have s2 := hqc.get ad
         rw [had] at s2
         simp only [AV.at] at s2
         rw [← e] at s1
         simp only [Option.getD_some] at s1
         exact IQ s2 s1
       have : mkSt ⟨st.slots, upd st.heap id b'⟩ (some da) qa.1 qa.2 = ({ slots := (mkSt st (some da) qa.1 qa.2).slots, heap := upd (mkSt st (some da) qa.1 qa.2).heap id b' } : St).put none .undef := by
        simp only [mkSt, St.put, hu]
       rw [this]
       exact hk
     | _ => rw [had] at hk; simp at hk
  ·cases h
 ·cases h
theorem aed {x : Nat} {l L : List Nat} (h : subN l (rmN x L) = true) : ∀ s ∈ l, s ∈ L ∧ s ≠ x := fun s hs => by
 have : ∀ {l m : List Nat}, subN l m = true → ∀ x ∈ l, x ∈ m := by
  intro l m h
  induction l with
  | nil => simp
  | cons y r ih =>
    simp only [subN, Bool.and_eq_true] at h
    intro x hx
    rcases List.mem_cons.1 hx with rfl | hx
    ·exact mY.1 h.1
    ·exact ih h.2 x hx
 exact oW.1 (this h s hs)
theorem ZV {s : Nat} : ∀ {l : List Operand}, Operand.tmp s ∈ l → s ∈ kV l
 | y :: r, h => by
   rcases List.mem_cons.1 h with rfl | h
   ·simp [kV]
   ·have := ZV h
    cases y <;> simp [kV, this]
theorem agX {ops : Array Oper} {i : Nat} {na : List Nat} {a b : Oper} {L : List Nat} (h : pJ ops L a b = true) {st : St} (hca : kJ a.op = true → kQ (jW a) st) (hcb : kQ (jW b) st) {k : St → Option α} {da : Nat} (hda : a.dst = some da)
 (hk : (kW E ops na a st fun s => evIL E ops L i b s k) = some r) : (evIL E ops (rmN da L) i b st fun s => kW E ops na a s k) = some r := by
 unfold pJ at h
 simp only [Bool.and_eq_true] at h
 obtain ⟨⟨ha, hb⟩, h⟩ := h
 split at h
 ·rename_i da' db hda' hdb
  rw [hda] at hda'
  have hdd := Option.some.inj hda'
  subst hdd
  simp only [Bool.and_eq_true, Bool.not_eq_true'] at h
  obtain ⟨⟨hne, h1, h2⟩, hm⟩ := h
  have hne := gW hne
  have h1 := kz h1
  have h2 := kz h2
  have ea : jW a = da := by simp [jW, hda]
  have eb : jW b = db := by simp [jW, hdb]
  rw [ea] at hca
  rw [eb] at hcb
  obtain ⟨ya, fa⟩ := zY E ops na a ha hda
  rw [fa.form, Option.bind_eq_some_iff] at hk
  obtain ⟨qa, hqa, hk⟩ := hk
  have ma := fa.made st qa hqa
  rw [hda] at hk ma
  have hqc : qa.1 = [] ∨ kQ da st := by
   cases hmk : kJ a.op with
   | true => exact .inr (hca hmk)
   | false => exact .inl (fa.none hmk st qa hqa)
  obtain ⟨c, f, hop, hcal, hops, hmk⟩ := Ux hb
  rw [hops] at h1
  simp only [List.mem_append, not_or] at h1
  have hslots : (mkSt st (some da) qa.1 qa.2) = St.put ⟨st.slots, gz qa.1 st.heap⟩ (some da) qa.2 := rfl
  have gf : (mkSt st (some da) qa.1 qa.2).get f = st.get f := by
   rw [hslots, oK h1.1 (by simp), mJ]
  have gmap : c.args.toList.map (mkSt st (some da) qa.1 qa.2).get = c.args.toList.map st.get := by
   refine List.map_congr_left fun x hx => ?_
   rw [hslots, oK h1.1 (by simp [hx]), mJ]
  have gg : sK ops b (mkSt st (some da) qa.1 qa.2) = sK ops b st := by
   rw [hslots, NJ h1.2, tZ]
  have gp : Ij E b.dst (st.get f) (c.args.toList.map st.get) (mkSt st (some da) qa.1 qa.2).heap = Ij E b.dst (st.get f) (c.args.toList.map st.get) st.heap := by
   show Ij E b.dst (st.get f) (c.args.toList.map st.get) (gz qa.1 st.heap) = _
   rcases hqc with hqc | hqc
   ·rw [hqc]; rfl
   ·refine ahG (d := da) (fun id hid => vw fun p hp e => hid (by rw [← e]; exact ma.site p hp)) (fun id b hb => (hqc.blk hb).2) (hqc.get f) fun v hv => ?_
    obtain ⟨x, _, rfl⟩ := List.mem_map.1 hv
    exact hqc.get x
  unfold evIL at hk ⊢
  obtain ⟨hc, hk⟩ := ifB hk
  have hfree : ∀ g caps ids, st.get f = .fn g caps → iQ (E.M g) (c.args.toList.map st.get ++ caps) = some ids → ∀ id ∈ ids, ∀ s ∈ rmN da L, (st.slots.getD s .undef).names id = false := fun g caps ids hfe hids => by
   simp only [chkL, hop, hcal] at hc
   rw [gf, gmap, hfe] at hc
   simp only [hids] at hc
   intro id hid s hs
   obtain ⟨hs1, hs2⟩ := oW.1 hs
   have := SY.1 hc id hid s hs1
   simpa only [mkSt, St.put, List.getD_eq_getElem?_getD, List.getElem?_set_ne (Ne.symm hs2)] using this
  have hc2 : chkL E (rmN da L) b st = true := by
   simp only [chkL, hop, hcal]
   cases hfe : st.get f with
   | fn g caps =>
     simp only
     cases hids : iQ (E.M g) (c.args.toList.map st.get ++ caps) with
     | none => rfl
     | some ids => exact SY.2 (hfree g caps ids hfe hids)
   | _ => rfl
  rw [hc2, cond_true]
  rw [WY E ops _ hop hcal, gf, gmap, gg, gp] at hk
  rw [WY E ops _ hop hcal, ← hk]
  have back2 : ∀ (h : Heap) (q : List (Nat × Blk) × AV), ya ⟨st.slots, h⟩ = ya st → kQ db ⟨st.slots, h⟩ → MW (kK ops i) (some db) (⟨st.slots, h⟩ : St) q → kW E ops na a (mkSt ⟨st.slots, h⟩ (some db) q.1 q.2) k = k (mkSt ⟨(mkSt st (some da) qa.1 qa.2).slots, gz qa.1 h⟩ (some db) q.1 q.2) := fun h q hy hcl mb => by
   rw [fa.form, fa.behind h2 mb (.inr hcl), hy, hqa, Option.bind_some, hda]
   show k (mkSt (mkSt ⟨st.slots, h⟩ (some db) q.1 q.2) (some da) qa.1 qa.2) = k (mkSt (mkSt ⟨st.slots, h⟩ (some da) qa.1 qa.2) (some db) q.1 q.2)
   rw [abJ hne]
   intro p hp q' hq e
   have s1 := ma.site p hp
   have s2 := mb.site q' hq
   simp only [Option.getD_some] at s1 s2
   rw [e, s2] at s1
   exact hne s1.symm
  refine gV fun g => ?_
  cases g with
  | false =>
    rw [cond_false, cond_false, hdb]
    have := back2 st.heap ([], .tup []) rfl hcb ⟨by simp, by simp, fun _ _ _ _ _ => rfl⟩
    exact this
  | true =>
    rw [cond_true, cond_true]
    refine afN fun p hp => ?_
    obtain ⟨caps, hfe, _, hids, _, _, _⟩ := abQ hp
    congr 1
    funext res
    have hbi : Go.Ev.back (mkSt st (some da) qa.1 qa.2).heap p.2.2.2 res.outs = (Go.Ev.back st.heap p.2.2.2 res.outs).map (gz qa.1) := by
     show Go.Ev.back (gz qa.1 st.heap) p.2.2.2 res.outs = _
     refine agi fun x hx id hid e => ?_
     rcases hqc with hqc | hqc
     ·rw [hqc] at hx; simp at hx
     ·obtain ⟨v, hv, hvn⟩ := UJ hids id hid
      have hva : v.at da = false := by
       rcases List.mem_append.1 hv with hv | hv
       ·obtain ⟨y, _, rfl⟩ := List.mem_map.1 hv
        exact hqc.get y
       ·have := hqc.get f
        rw [hfe] at this
        simp only [AV.at] at this
        exact kX.1 this v hv
      have s1 := ma.site x hx
      simp only [Option.getD_some] at s1
      have := xZ hva (j := id) (by rw [e]; exact s1)
      rw [hvn] at this
      cases this
    rw [hbi]
    cases hback : Go.Ev.back st.heap p.2.2.2 res.outs with
    | none => rfl
    | some h =>
      simp only [Option.map_some, Option.bind_some]
      have hy : ya ⟨st.slots, h⟩ = ya st := by
       rw [Bool.or_eq_true] at hm
       rcases hm with hm | hm
       ·exact fa.free hm st h
       ·refine fa.sep st h fun x hx id hid => aes hback id fun hin => ?_
        have hnm : (st.get x).names id = false := by
         cases x with
         | tmp s => exact hfree _ _ _ hfe hids id hin s (oW.2 (aed hm s (ZV hx)))
         | const v => exact Jv v id
         | func g => simp [St.get, AV.names, AV.namesAll]
         | global g => simp [St.get, AV.names]
        rw [hnm] at hid
        cases hid
      cases hpq : TQ p.2.2.1 (fQ b.dst) res with
      | none => rfl
      | some q =>
        simp only [Option.bind_some]
        cases hok : (vZ (kK ops i) q.2 && zk (kK ops i) q.1) with
        | false => rfl
        | true =>
          rw [cond_true, cond_true]
          have mb := ab9 (st := (⟨st.slots, h⟩ : St)) hpq hok
          rw [hdb] at mb ⊢
          exact back2 h q hy (Sv hback hcb) mb
 ·cases h
def appR (E : Env α) (c : Call) (dst : Option Tmp) (args : List AV) (h : Heap) : Option (Nat × Blk) := match args with
 | [s, x] => match c.argTypes.toList with
   | [T, u] => match E.P.underlying u with
     | some (.slice _) => match E.P.underlying T with
       | some (.slice e) => (tyOf E.P e).bind fun t => bif rZ E.P e then (dX E.P e).bind fun sz => bif Nat.beq sz t.w then (BJ h t x).bind fun xs =>
         match s with
         | .sl id => (look h id).bind fun b => match b with
           | .rows m e' t' l => bif Nat.beq m 2 && Nat.beq e e' then (if h : t' = t then
              bif decide (l.length + xs.length ≤ big) then some (id, .rows 2 e t ((h ▸ l : List t.den) ++ xs)) else none
             else none) else none
           | _ => none
         | .sub id 0 n => (look h id).bind fun b => match b with
           | .rows m e' t' l => bif Nat.beq m 2 && Nat.beq e e' then (if h : t' = t then
              bif decide (n + xs.length ≤ big) then some (id, .rows 2 e t ((h ▸ l : List t.den).take n ++ xs)) else none
             else none) else none
           | _ => none
         | .nilsl | .emp => bif decide (xs.length ≤ big) then (bif Nat.ble E.low (fQ dst) then some (fQ dst, .rows 2 e t xs) else none) else none
         | _ => none
         else none else none
       | _ => none
     | some (.int _) => match E.P.underlying T with
       | some (.slice e) => (tyOf E.P e).bind fun t => (nY E.P e).bind fun z => (t.dec (cellsOf z)).bind fun d => bif rZ E.P e then (dX E.P e).bind fun sz => bif Nat.beq sz t.w then
         match s, x with
         | .nilsl, .int .i64 n | .emp, .int .i64 n => bif decide (1 ≤ n) && decide (n ≤ (big : Int)) then (bif Nat.ble E.low (fQ dst) then some (fQ dst, .rows 2 e t (List.replicate n.toNat d)) else none) else none
         | _, _ => none
         else none else none
       | _ => none
     | _ => none
   | _ => none
 | _ => none
theorem aeH {b : Oper} (h : RQ b.op = true) : ∃ c, b.op = .call c ∧ c.callee = .builtin .append ∧ b.op.operands.toList = c.args.toList := by
 unfold RQ at h
 split at h
 ·rename_i c hop
  split at h
  ·rename_i bu hcal
   split at h
   ·exact ⟨c, hop, hcal, by rw [hop]; simp [Op.operands, Call.operands, hcal]⟩
   ·cases h
  ·cases h
 ·cases h
theorem adc (E : Env α) {o : Oper} {c : Call} (hop : o.op = .call c) (hcal : c.callee = .builtin .append) (st : St) (k : St → Option α) : evOp E o st k = (appR E c o.dst (c.args.toList.map st.get) st.heap).bind fun q => k ((st.fresh q.1 q.2).put o.dst (.sl q.1)) := by
 simp only [evOp, hop, hcal, zV]
 cases hl : c.args.toList.map st.get with
 | nil => rfl
 | cons s l => cases l with
   | nil => rfl
   | cons x l => cases l with
     | cons => rfl
     | nil =>
       simp only [appR]
       cases hts : c.argTypes.toList with
       | nil => rfl
       | cons T l => cases l with
         | nil => rfl
         | cons u l => cases l with
           | cons => rfl
           | nil =>
             simp only
             cases hu : E.P.underlying u with
             | none => rfl
             | some du => cases du with
               | slice e' =>
                 simp only [UQ]
                 cases hT : E.P.underlying T with
                 | none => rfl
                 | some dT => cases dT with
                   | slice e =>
                     simp only [Option.bind_assoc]
                     refine gV fun t => ?_
                     rw [dZ]
                     cases rZ E.P e with
                     | false => rfl
                     | true =>
                       simp only [cond_true, Option.bind_assoc]
                       refine gV fun sz => ?_
                       rw [dZ]
                       cases Nat.beq sz t.w with
                       | false => rfl
                       | true =>
                         simp only [cond_true, Option.bind_assoc]
                         refine gV fun xs => ?_
                         cases s with
                         | sl id =>
                           simp only [Option.bind_assoc]
                           refine gV fun b => ?_
                           cases b with
                           | map => first | rfl | (cases h; done) | (simp at h; done) | (simp at *; done)
                           | bld => first | rfl | (cases h; done) | (simp at h; done) | (simp at *; done)
                           | mix => rfl
                           | rows m e' t' l =>
                             simp only [dZ]
                             split <;> first | rfl | (simp only [dZ]; rfl)
                         | sub id lo n =>
                           cases lo with
                           | succ => rfl
                           | zero =>
                             simp only [Option.bind_assoc]
                             refine gV fun b => ?_
                             cases b with
                             | map => first | rfl | (cases h; done) | (simp at h; done) | (simp at *; done)
                             | bld => first | rfl | (cases h; done) | (simp at h; done) | (simp at *; done)
                             | mix => rfl
                             | rows m e' t' l =>
                               simp only [dZ]
                               split <;> first | rfl | (simp only [dZ]; rfl)
                         | nilsl => simp only [dZ, oq]; rfl
                         | emp => simp only [dZ, oq]; rfl
                         | _ => rfl
                   | _ => rfl
               | int ik =>
                 simp only [PZ]
                 cases hT : E.P.underlying T with
                 | none => rfl
                 | some dT => cases dT with
                   | slice e =>
                     simp only [Option.bind_assoc]
                     refine gV fun t => ?_
                     refine gV fun z => ?_
                     refine gV fun d => ?_
                     rw [dZ]
                     cases rZ E.P e with
                     | false => rfl
                     | true =>
                       simp only [cond_true, Option.bind_assoc]
                       refine gV fun sz => ?_
                       rw [dZ]
                       cases Nat.beq sz t.w with
                       | false => rfl
                       | true =>
                         simp only [cond_true]
                         split
                         ·simp only [dZ, oq]; rfl
                         ·simp only [dZ, oq]; rfl
                         ·rename_i hno1 hno2
                          split
                          ·exact absurd rfl (hno1 _ rfl)
                          ·exact absurd rfl (hno2 _ rfl)
                          ·rfl
                   | _ => rfl
               | _ => rfl
theorem ajs {E : Env α} {c : Call} {dst : Option Tmp} {s : AV} {l : List AV} {h : Heap} {q : Nat × Blk} (hq : appR E c dst (s :: l) h = some q) : q.1 = ae9 dst s := by
 cases l with
 | nil => cases hq
 | cons x l => cases l with
   | cons => cases hq
   | nil =>
     simp only [appR] at hq
     split at hq
     ·split at hq
      ·split at hq
       ·rw [Option.bind_eq_some_iff] at hq
        obtain ⟨t, _, hq⟩ := hq
        obtain ⟨_, hq⟩ := ifB hq
        rw [Option.bind_eq_some_iff] at hq
        obtain ⟨sz, _, hq⟩ := hq
        obtain ⟨_, hq⟩ := ifB hq
        rw [Option.bind_eq_some_iff] at hq
        obtain ⟨xs, _, hq⟩ := hq
        cases s with
        | sl id =>
          simp only at hq
          rw [Option.bind_eq_some_iff] at hq
          obtain ⟨b, _, hq⟩ := hq
          cases b with
          | map => first | rfl | (cases h; done) | (simp at h; done) | (simp at *; done)
          | bld => first | rfl | (cases h; done) | (simp at h; done) | (simp at *; done)
          | mix => cases hq
          | rows m e' t' l =>
            simp only at hq
            obtain ⟨_, hq⟩ := ifB hq
            split at hq
            ·obtain ⟨_, hq⟩ := ifB hq
             cases hq
             rfl
            ·cases hq
        | sub id lo n =>
          cases lo with
          | succ => cases hq
          | zero =>
            simp only at hq
            rw [Option.bind_eq_some_iff] at hq
            obtain ⟨b, _, hq⟩ := hq
            cases b with
            | map => first | rfl | (cases h; done) | (simp at h; done) | (simp at *; done)
            | bld => first | rfl | (cases h; done) | (simp at h; done) | (simp at *; done)
            | mix => cases hq
            | rows m e' t' l =>
              simp only at hq
              obtain ⟨_, hq⟩ := ifB hq
              split at hq
              ·obtain ⟨_, hq⟩ := ifB hq
               cases hq
               rfl
              ·cases hq
        | nilsl =>
          simp only at hq
          obtain ⟨_, hq⟩ := ifB hq
          obtain ⟨_, hq⟩ := ifB hq
          cases hq
          rfl
        | emp =>
          simp only at hq
          obtain ⟨_, hq⟩ := ifB hq
          obtain ⟨_, hq⟩ := ifB hq
          cases hq
          rfl
        | _ => cases hq
       ·cases hq
      ·split at hq
       ·rw [Option.bind_eq_some_iff] at hq
        obtain ⟨t, _, hq⟩ := hq
        rw [Option.bind_eq_some_iff] at hq
        obtain ⟨z, _, hq⟩ := hq
        rw [Option.bind_eq_some_iff] at hq
        obtain ⟨d, _, hq⟩ := hq
        obtain ⟨_, hq⟩ := ifB hq
        rw [Option.bind_eq_some_iff] at hq
        obtain ⟨sz, _, hq⟩ := hq
        obtain ⟨_, hq⟩ := ifB hq
        split at hq
        ·obtain ⟨_, hq⟩ := ifB hq
         obtain ⟨_, hq⟩ := ifB hq
         cases hq
         rfl
        ·obtain ⟨_, hq⟩ := ifB hq
         obtain ⟨_, hq⟩ := ifB hq
         cases hq
         rfl
        ·cases hq
       ·cases hq
      ·cases hq
     ·cases hq
theorem aj6 {E : Env α} {ns : List Nat} {o : Oper} (h : RQ o.op = true) (k : St → Option α) : vK E ns o st k = match ns with
 | [] => evOp E o st k
 | _ :: _ => none := by
 obtain ⟨c, hop, hcal, _⟩ := aeH h
 have h1 : kJ o.op = false := by rw [hop]; rfl
 have h2 : pY o.op = false := by rw [hop]; simp [pY, hcal]
 have h3 : wZ o.op = false := by rw [hop]; simp [wZ, hcal]
 unfold vK
 rw [h1, h2, h3, cond_false, cond_false, cond_false, hop]
 cases ns <;> rfl
theorem ady {ops : Array Oper} {a b : Oper} {L L' : List Nat} (h : tV ops L a b = true) (hs : ∀ s ∈ L, s ∈ L') : tV ops L' a b = true := by
 unfold tV at h ⊢
 rw [Bool.and_eq_true] at h ⊢
 refine ⟨h.1, ?_⟩
 have h2 := h.2
 split at h2
 ·rename_i x y hx hy
  simp only [Bool.and_eq_true] at h2 ⊢
  exact ⟨h2.1, mY.2 (hs x (mY.1 h2.2.1)), ab4 h2.2.2 fun s h4 => oW.2 ⟨hs s (oW.1 h4).1, (oW.1 h4).2⟩⟩
 ·cases h2
theorem TY {ops : Array Oper} {i : Nat} {na : List Nat} {a b : Oper} {L : List Nat} (h : tV ops L a b = true) {st : St} {k : St → Option α} {da : Nat} (hda : a.dst = some da)
 (hk : (kW E ops na a st fun s => evIL E ops L i b s k) = some r) : (evIL E ops (rmN da L) i b st fun s => kW E ops na a s k) = some r := by
 unfold tV at h
 simp only [Bool.and_eq_true] at h
 obtain ⟨⟨hv, hms, hap⟩, h⟩ := h
 split at h
 ·rename_i da' db hda' hdb
  rw [hda] at hda'
  have hdd := Option.some.inj hda'
  subst hdd
  simp only [Bool.and_eq_true, Bool.not_eq_true'] at h
  obtain ⟨⟨hne, h1, h2⟩, hdL, hoL⟩ := h
  have hne := gW hne
  have h1 := kz h1
  have h2 := kz h2
  have hdL := mY.1 hdL
  have ha : oZ a.op = true := by simp [oZ, hv]
  obtain ⟨ya, fa⟩ := zY E ops na a ha hda
  rw [fa.form, Option.bind_eq_some_iff] at hk
  obtain ⟨qa, hqa, hk⟩ := hk
  have hq0 := fa.none (Gw hv) st qa hqa
  have e1 : mkSt st a.dst qa.1 qa.2 = st.put (some da) qa.2 := by
   unfold mkSt
   rw [hq0, hda]
   rfl
  have e2 : ∀ s : St, mkSt s a.dst qa.1 qa.2 = s.put (some da) qa.2 := fun s => by
   unfold mkSt
   rw [hq0, hda]
   rfl
  rw [e1] at hk
  obtain ⟨c, hop, hcal, hops⟩ := aeH hap
  rw [hops] at h1
  simp only [List.mem_append, not_or] at h1
  have gmap : c.args.toList.map (st.put (some da) qa.2).get = c.args.toList.map st.get :=
   List.map_congr_left fun x hx => oK h1.1 hx
  have gg : sK ops b (st.put (some da) qa.2) = sK ops b st := NJ h1.2
  unfold evIL at hk ⊢
  obtain ⟨hc, hk⟩ := ifB hk
  have hfree : ∀ s0 l0, c.args.toList = s0 :: l0 → ∀ s ∈ L, ((st.put (some da) qa.2).slots.getD s .undef).names (ae9 b.dst (st.get s0)) = false := fun s0 l0 hl => by
   simp only [chkL, hop, hcal, hl] at hc
   have hs0 : (st.put (some da) qa.2).get s0 = st.get s0 := oK h1.1 (by rw [hl]; simp)
   rw [hs0] at hc
   exact Iq.1 hc
  have other : ∀ s, s ≠ da → (st.put (some da) qa.2).slots.getD s .undef = st.slots.getD s .undef := fun s hs => by
   simp only [St.put, List.getD_eq_getElem?_getD, List.getElem?_set_ne (Ne.symm hs)]
  have hc2 : chkL E (rmN da L) b st = true := by
   simp only [chkL, hop, hcal]
   cases hl : c.args.toList with
   | nil => rfl
   | cons s0 l0 =>
     refine Iq.2 fun s hs => ?_
     obtain ⟨hs1, hs2⟩ := oW.1 hs
     have := hfree s0 l0 hl s hs1
     rwa [other s hs2] at this
  rw [hc2, cond_true]
  unfold kW at hk ⊢
  rw [gg, Option.bind_eq_some_iff] at hk
  obtain ⟨g, hg, hk⟩ := hk
  rw [hg, Option.bind_some]
  cases g with
  | false =>
    rw [cond_false, hdb] at hk ⊢
    show kW E ops na a (st.put (some db) (.tup [])) k = some r
    rw [fa.form, fa.slot st db _ h2, hqa, Option.bind_some, e2, acI (Ne.symm hne)]
    exact hk
  | true =>
    rw [cond_true, aj6 hap] at hk ⊢
    cases hns : kK ops i with
    | cons => rw [hns] at hk; simp at hk
    | nil =>
      rw [hns] at hk
      simp only at hk ⊢
      rw [adc E hop hcal, gmap] at hk
      rw [adc E hop hcal]
      rw [Option.bind_eq_some_iff] at hk ⊢
      obtain ⟨q, hq, hk⟩ := hk
      refine ⟨q, hq, ?_⟩
      cases hl : c.args.toList with
      | nil => rw [hl] at hq; cases hq
      | cons s0 l0 =>
        rw [hl, List.map_cons] at hq
        have hid := ajs hq
        have hfr := hfree s0 l0 hl
        rw [← hid] at hfr
        have hnm : ∀ x ∈ a.op.operands.toList, (st.get x).names q.1 = false := fun x hx => by
         cases x with
         | tmp s =>
           obtain ⟨k1, k2⟩ := aed hoL s (ZV hx)
           have := hfr s k1
           rwa [other s k2] at this
         | const v => exact Jv v _
         | func g => simp [St.get, AV.names, AV.namesAll]
         | global g => simp [St.get, AV.names]
        have hya : ya (st.fresh q.1 q.2) = ya st := fa.kill hv hms st q.1 _ hnm fun j hj β f hf => by
         have := mV st q.1 q.2 j
         rw [if_neg hj] at this
         show (look (st.fresh q.1 q.2).heap j).bind f = _
         rw [this]
         cases look st.heap j with
         | none => rfl
         | some bl =>
           simp only [Option.map_some, Option.bind_some]
           refine hf _ _ ?_ ?_
           ·cases bl <;> rfl
           ·cases bl <;> simp [mZ, Blk.n]
        show kW E ops na a ((st.fresh q.1 q.2).put b.dst (.sl q.1)) k = some r
        rw [hdb] at hk ⊢
        rw [fa.form, fa.slot _ db _ h2, hya, hqa, Option.bind_some, e2, acI (Ne.symm hne), ← hk]
        congr 2
        simp only [St.put, St.fresh, List.map_set]
        congr 1
        by_cases hlt : da < st.slots.length
        ·have := hfr da hdL
         simp only [St.put, List.getD_eq_getElem?_getD, List.getElem?_set_self hlt, Option.getD_some] at this
         rw [EJ this]
        ·have hge : st.slots.length ≤ da := by omega
         rw [List.set_eq_of_length_le (by simpa using hge), List.set_eq_of_length_le (by simpa using hge)]
 ·cases h
theorem agF {ops : Array Oper} {L : List Nat} {a b : Oper} (h : (yZ ops a b || tX ops L a b || pJ ops L a b || tV ops L a b) = true) : oZ a.op = true ∧ ∃ d, a.dst = some d := by
 rw [Bool.or_eq_true, Bool.or_eq_true, Bool.or_eq_true] at h
 rcases h with ((h | h) | h) | h
 ·simp only [yZ, Bool.and_eq_true] at h
  refine ⟨h.1.1, ?_⟩
  have h2 := h.2
  split at h2
  ·rename_i x y hx hy
   exact ⟨x, hx⟩
  ·cases h2
 ·unfold tX at h
  split at h
  ·split at h
   ·rename_i x hx _
    simp only [Bool.and_eq_true] at h
    exact ⟨h.2.1, x, hx⟩
   ·cases h
  ·cases h
 ·simp only [pJ, Bool.and_eq_true] at h
  refine ⟨h.1.1, ?_⟩
  have h2 := h.2
  split at h2
  ·rename_i x y hx hy
   exact ⟨x, hx⟩
  ·cases h2
 ·simp only [tV, Bool.and_eq_true] at h
  refine ⟨by simp [oZ, h.1.1], ?_⟩
  have h2 := h.2
  split at h2
  ·rename_i x y hx hy
   exact ⟨x, hx⟩
  ·cases h2
theorem adq {ops : Array Oper} {a b : Oper} (h : yZ ops a b = true) : oZ b.op = true := by
 simp only [yZ, Bool.and_eq_true] at h
 exact h.1.2
def Inv (ops : Array Oper) (l : List Nat) (st : St) : Prop := ∀ i ∈ l, ∀ o, ops[i]? = some o → nJ o.op = true → kQ (jW o) st
theorem Jw {ops : Array Oper} {o oj : Oper} {j : Nat} (h : pq ops o j = true) (hm : nJ o.op = true) (hj : ops[j]? = some oj) : jW o ∈ kK ops j ∧ jW o ≠ oj.dst.getD 0 := by
 simp only [pq, hm, Bool.not_true, Bool.false_or, Bool.and_eq_true, hj] at h
 exact ⟨mY.1 h.1, gW (show Nat.beq (jW o) (jW oj) = false by simpa using h.2)⟩
theorem Inv.made {ops : Array Oper} {l : List Nat} {j : Nat} {oj : Oper} (h : Inv ops l st) (hj : ops[j]? = some oj) (hs : ∀ m ∈ l, ∀ om, ops[m]? = some om → pq ops om j = true) {q : List (Nat × Blk) × AV} (hq : MW (kK ops j) oj.dst st q) : Inv ops l (mkSt st oj.dst q.1 q.2) := by
 intro i hi o ho hm
 obtain ⟨h1, h2⟩ := Jw (hs i hi o ho) hm hj
 exact hq.clean h1 h2 (h i hi o ho hm)
theorem aei {id : Nat} {b : Blk} {p : Nat × Blk} : ∀ {h : Heap}, p ∈ upd h id b → p = (id, b) ∨ p ∈ h
 | [], h => by simpa [upd] using h
 | (j, c) :: r, h => by
   simp only [upd] at h
   cases hb : Nat.beq j id with
   | true =>
     rw [hb, cond_true] at h
     rcases List.mem_cons.1 h with h | h
     ·exact .inl h
     ·exact .inr (by simp [h])
   | false =>
     rw [hb, cond_false] at h
     rcases List.mem_cons.1 h with h | h
     ·exact .inr (by simp [h])
     ·rcases aei h with h | h
      ·exact .inl h
      ·exact .inr (by simp [h])
theorem aa2 {x : AV} : ∀ {vs l : List AV} {i : Nat}, x ∈ lq l i vs → x ∈ l ∨ x ∈ vs
 | [], l, i, h => .inl h
 | v :: vs, l, i, h => by
   simp only [lq] at h
   rcases aa2 h with h | h
   ·rcases List.mem_or_eq_of_mem_set h with h | h
    ·exact .inl h
    ·exact .inr (by simp [h])
   ·exact .inr (by simp [h])
theorem ahk {b b' : Blk} {row col : Nat} {vs : List AV} {d : Nat} (h : b.write row col vs some = some b') (hb : b.at d = false) (hv : ∀ v ∈ vs, v.at d = false) : b'.at d = false := by
 cases b with
 | map => first | rfl | (cases h; done) | (simp at h; done) | (simp at *; done)
 | bld e eb t =>
   obtain ⟨_, _, _, h⟩ := abK h
   have := Option.some.inj h
   subst this
   rfl
 | mix m e l =>
   unfold Blk.write at h
   cases hc : (Nat.beq (Blk.mix m e l).mode 0 && !(Blk.mix m e l).isBld || !gZ vs) with
   | true => rw [hc, cond_true] at h; cases h
   | false =>
     rw [hc, cond_false] at h
     simp only at h
     obtain ⟨_, h⟩ := ifB h
     have := Option.some.inj h
     subst this
     simp only [Blk.at] at hb ⊢
     rw [kX] at hb ⊢
     intro x hx
     rcases aa2 hx with hx | hx
     ·exact hb x hx
     ·exact hv x hx
 | rows m e t l =>
   have : ∃ l', b' = .rows m e t l' := by
    unfold Blk.write at h
    cases hc : (Nat.beq (Blk.rows m e t l).mode 0 && !(Blk.rows m e t l).isBld || !gZ vs) with
    | true => rw [hc, cond_true] at h; cases h
    | false =>
      rw [hc, cond_false] at h
      simp only at h
      cases hw : Nat.beq t.w 1 with
      | true =>
        rw [hw, cond_true] at h
        obtain ⟨_, h⟩ := ifB h
        rw [wV, Option.bind_eq_some_iff] at h
        obtain ⟨l', _, h⟩ := h
        exact ⟨l', (Option.some.inj h).symm⟩
      | false =>
        rw [hw, cond_false] at h
        obtain ⟨_, h⟩ := ifB h
        rw [Option.bind_eq_some_iff] at h
        obtain ⟨x, _, h⟩ := h
        rw [Option.bind_eq_some_iff] at h
        obtain ⟨y, _, h⟩ := h
        exact ⟨_, (Option.some.inj h).symm⟩
   obtain ⟨l', rfl⟩ := this
   rfl
theorem aeU {x : AV} {d : Nat} (h : x.at d = false) : ∀ v ∈ cellsOf x, v.at d = false := by
 cases x with
 | agg l => simp only [AV.at] at h; exact kX.1 h
 | _ => intro v hv; simp only [cellsOf, List.mem_singleton] at hv; subst hv; exact h
open Classical in
theorem afl {E : Env α} {ops : Array Oper} {L : List Nat} {i : Nat} {oi : Oper} (hi : ops[i]? = some oi) {l : List Nat} {st : St} (hinv : Inv ops l st) (hs : ∀ m ∈ l, ∀ om, ops[m]? = some om → pq ops om i = true) {k : St → Option α} (hk : evIL E ops L i oi st k = some r) : evIL E ops L i oi st (fun s => if Inv ops l s then k s else none) = some r := by
 unfold evIL at hk ⊢
 obtain ⟨hc, hk⟩ := ifB hk
 rw [hc, cond_true]
 have void : Inv ops l (st.put oi.dst (.tup [])) := hinv.made (q := ([], .tup [])) hi hs ⟨by simp, by simp, fun _ _ _ _ _ => rfl⟩
 cases hp : oZ oi.op with
 | true =>
   cases hd : oi.dst with
   | some dd =>
     obtain ⟨y, fy⟩ := zY E ops (kK ops i) oi hp hd
     rw [fy.form, Option.bind_eq_some_iff] at hk
     obtain ⟨q, hq, hk⟩ := hk
     have := hinv.made hi hs (fy.made st q hq)
     rw [fy.form, hq, Option.bind_some, if_pos this]
     exact hk
   | none =>
     unfold kW at hk ⊢
     rw [Option.bind_eq_some_iff] at hk
     obtain ⟨g, hg, hk⟩ := hk
     rw [hg, Option.bind_some]
     cases g with
     | false =>
       rw [cond_false] at hk ⊢
       show (if Inv ops l (st.put oi.dst (.tup [])) then k (st.put oi.dst (.tup [])) else none) = some r
       rw [if_pos void]
       exact hk
     | true =>
       rw [cond_true] at hk ⊢
       cases hm : kJ oi.op with
       | true =>
         simp only [vK, hm, cond_true] at hk ⊢
         rw [Option.bind_eq_some_iff] at hk
         obtain ⟨q, hq, hk⟩ := hk
         obtain ⟨ho, hk⟩ := ifB hk
         have := hinv.made (q := ([(fQ oi.dst, q.1)], q.2)) hi hs ⟨fun p hp => by
          simp only [List.mem_singleton] at hp
          subst hp
          unfold fQ
          simp, Kq.1 (Bool.and_eq_true _ _ ▸ ho).2, fun d hd' e _ _ => Aj.1 (Bool.and_eq_true _ _ ▸ ho).1 d hd'⟩
         rw [hq, Option.bind_some, ho, cond_true, if_pos this]
         exact hk
       | false =>
         have hv : pY oi.op = true := by
          simp only [oZ, hm, Bool.or_false] at hp
          exact hp
         rw [abP hv] at hk ⊢
         obtain ⟨y, ey, _⟩ := ac4 E oi hv
         rw [ey, Option.bind_eq_some_iff] at hk
         obtain ⟨x, hx, hk⟩ := hk
         obtain ⟨ho, hk⟩ := ifB hk
         rw [ey, hx, Option.bind_some, ho, cond_true]
         have : Inv ops l (st.put oi.dst x) := by rw [hd]; exact hinv
         rw [if_pos this]
         exact hk
 | false =>
   cases hcv : wZ oi.op with
   | true =>
     obtain ⟨c, f, hop, hcal, _, _⟩ := Ux hcv
     rw [WY E ops _ hop hcal] at hk ⊢
     rw [← hk]
     refine gV fun g => ?_
     cases g with
     | false => rw [cond_false, cond_false, if_pos void]
     | true =>
       rw [cond_true, cond_true]
       refine gV fun p => ?_
       congr 1
       funext res
       cases hback : Go.Ev.back st.heap p.2.2.2 res.outs with
       | none => rfl
       | some h =>
         simp only [Option.bind_some]
         cases hpq : TQ p.2.2.1 (fQ oi.dst) res with
         | none => rfl
         | some q =>
           simp only [Option.bind_some]
           cases hok : (vZ (kK ops i) q.2 && zk (kK ops i) q.1) with
           | false => rfl
           | true =>
             have hinv2 : Inv ops l (⟨st.slots, h⟩ : St) := fun m hml om hom hmk => Sv hback (hinv m hml om hom hmk)
             rw [cond_true, cond_true, if_pos (hinv2.made hi hs (ab9 (st := (⟨st.slots, h⟩ : St)) hpq hok))]
   | false =>
     unfold kW at hk ⊢
     rw [Option.bind_eq_some_iff] at hk
     obtain ⟨g, hg, hk⟩ := hk
     rw [hg, Option.bind_some]
     cases g with
     | false =>
       rw [cond_false] at hk ⊢
       show (if Inv ops l (st.put oi.dst (.tup [])) then k (st.put oi.dst (.tup [])) else none) = some r
       rw [if_pos void]
       exact hk
     | true =>
       rw [cond_true] at hk ⊢
       have hm : kJ oi.op = false := by
        simp only [oZ, Bool.or_eq_false_iff] at hp
        exact hp.2
       have hv : pY oi.op = false := by
        simp only [oZ, Bool.or_eq_false_iff] at hp
        exact hp.1
       cases hop : oi.op with
       | store t ad v =>
         rw [aaw hop] at hk ⊢
         obtain ⟨ho, hk⟩ := ifB hk
         rw [ho, cond_true]
         simp only [evOp, hop] at hk ⊢
         cases had : st.get ad with
         | ptr id row col =>
           rw [had] at hk
           simp only at hk ⊢
           rw [Option.bind_eq_some_iff] at hk
           obtain ⟨bl, hbl, hk⟩ := hk
           rw [Option.bind_eq_some_iff] at hk
           obtain ⟨n, hn, hk⟩ := hk
           obtain ⟨hl, hk⟩ := ifB hk
           rw [Kw, Option.bind_eq_some_iff] at hk
           obtain ⟨b', hb', hk⟩ := hk
           rw [hbl, Option.bind_some, hn, Option.bind_some, hl, cond_true, Kw, hb', Option.bind_some]
           rw [if_pos]
           ·exact hk
           ·intro m hml om hom hmk
            obtain ⟨h1, h2⟩ := Jw (hs m hml om hom) hmk hi
            have hcl := hinv m hml om hom hmk
            have hx := Aj.1 ho _ h1
            constructor
            ·cases hd : oi.dst with
             | none => exact hcl.1
             | some dd => exact abC (st := ⟨st.slots, upd st.heap id b'⟩) hcl.1 fun _ => rfl
            ·have : (St.put ⟨st.slots, upd st.heap id b'⟩ oi.dst .undef).heap = upd st.heap id b' := by cases oi.dst <;> rfl
             rw [this, pW]
             intro p hpm
             rcases aei hpm with rfl | hpm
             ·exact ⟨(hcl.blk hbl).1, ahk hb' (hcl.blk hbl).2 (aeU hx)⟩
             ·exact pW.1 hcl.2 p hpm
         | _ => rw [had] at hk; simp at hk
       | _ =>
         simp only [vK, hm, hv, hcv, cond_false] at hk ⊢
         rw [hop] at hk
         simp only [hop] at hk ⊢
         cases hns : kK ops i with
         | cons => rw [hns] at hk; simp at hk
         | nil =>
           rw [hns] at hk
           simp only at hk ⊢
           have triv : ∀ s, Inv ops l s := fun s m hml om hom hmk => by
            obtain ⟨h1, _⟩ := Jw (hs m hml om hom) hmk hi
            rw [hns] at h1
            simp at h1
           have : (fun s => if Inv ops l s then k s else none) = k := by
            funext s
            rw [if_pos (triv s)]
           rw [this]
           exact hk
def Uz (ops : Array Oper) (S : Nat → Prop) : Prop := ∀ m om, S m → ops[m]? = some om → ∀ e ∈ uZ om.after.toList, S e
theorem ag4 {l : List Nat} : ∀ {as : List Nat} {x : Nat}, x ∈ YQ as l ↔ x ∈ as ∨ x ∈ l := by
 intro as
 induction as generalizing l with
 | nil => intro x; simp [YQ]
 | cons a r ih =>
   intro x
   simp only [YQ]
   cases h : memN a l with
   | true =>
     have := mY.1 h
     rw [cond_true, ih]
     constructor
     ·rintro (h | h) <;> simp [h]
     ·rintro (h | h)
      ·rcases List.mem_cons.1 h with rfl | h
       ·exact .inr this
       ·exact .inl h
      ·exact .inr h
   | false =>
     rw [cond_false, ih]
     simp only [List.mem_cons]
     constructor
     ·rintro (h | h | h) <;> simp [h]
     ·rintro ((h | h) | h) <;> simp [h]
theorem Jj {ops : Array Oper} {t : List (Nat × List Nat)} (ht : ∀ m x, x ∈ Ik t m → ∀ S, Uz ops S → S m → S x) : ∀ {ds : List Nat} {x : Nat}, x ∈ DK t ds → ∀ S, Uz ops S → (∀ e ∈ ds, S e) → S x
 | [], x, h, _, _, _ => by simp [DK] at h
 | e :: r, x, h, S, hS, hd => by
   simp only [DK, ag4, List.mem_cons] at h
   rcases h with (rfl | h) | h
   ·exact hd _ (by simp)
   ·exact ht e x h S hS (hd e (by simp))
   ·exact Jj ht h S hS fun e he => hd e (by simp [he])
def uV (ops : Array Oper) : List Nat → List Nat → List Nat
 | L, [] => L
 | L, j :: r => uV ops (Aq ops j L) r
theorem Vz {ops : Array Oper} {s : Nat} : ∀ {B L : List Nat}, s ∈ uV ops L B ↔ s ∈ L ∧ ∀ m ∈ B, (ops[m]?).bind (·.dst) ≠ some s
 | [], L => by simp [uV]
 | j :: r, L => by
   simp only [uV, Vz, aaS, List.mem_cons, forall_eq_or_imp]
   constructor
   ·rintro ⟨⟨h1, h2⟩, h3⟩; exact ⟨h1, h2, h3⟩
   ·rintro ⟨h1, h2, h3⟩; exact ⟨⟨h1, h2⟩, h3⟩
structure acr (ops : Array Oper) (a : List Nat) (i : Nat) : Prop where
 ex : ∃ o, ops[i]? = some o ∧ (∀ e ∈ uZ o.after.toList, e ∈ a) ∧ i ∉ a ∧
  ∀ B j A, a = B ++ j :: A → pq ops o j = true ∧ ((∀ S, Uz ops S → (∀ e ∈ uZ o.after.toList, S e) → S j) ∨ ∃ oj, ops[j]? = some oj ∧ (yZ ops oj o || tX ops (uV ops (zy ops i) B) oj o || pJ ops (uV ops (zy ops i) B) oj o || tV ops (uV ops (zy ops i) B) oj o) = true ∧ pq ops oj i = true)
theorem ahS {l m : List Nat} (h : subN l m = true) : ∀ x ∈ l, x ∈ m := by
 induction l with
 | nil => simp
 | cons a r ih =>
   simp only [subN, Bool.and_eq_true] at h
   intro x hx
   rcases List.mem_cons.1 hx with rfl | hx
   ·exact mY.1 h.1
   ·exact ih h.2 x hx
theorem Wq {ops : Array Oper} {i : Nat} {o : Oper} {w : List Nat} : ∀ {done L : List Nat}, BV.pairsOK ops i o w L done = true → ∀ B j A, done = B ++ j :: A → pq ops o j = true ∧ (j ∈ w ∨ ∃ oj, ops[j]? = some oj ∧ (yZ ops oj o || tX ops (uV ops L B) oj o || pJ ops (uV ops L B) oj o || tV ops (uV ops L B) oj o) = true ∧ pq ops oj i = true)
 | [], L, _, B, j, A, e => by simp at e
 | x :: r, L, h, B, j, A, e => by
   simp only [BV.pairsOK, Bool.and_eq_true] at h
   obtain ⟨⟨h0, h1⟩, h2⟩ := h
   cases B with
   | nil =>
     simp only [List.nil_append, List.cons.injEq] at e
     obtain ⟨rfl, rfl⟩ := e
     refine ⟨h0, ?_⟩
     rw [Bool.or_eq_true] at h1
     rcases h1 with h1 | h1
     ·exact .inl (mY.1 h1)
     ·split at h1
      ·rename_i oj ho
       rw [Bool.and_eq_true] at h1
       exact .inr ⟨oj, ho, h1⟩
      ·cases h1
   | cons y B =>
     simp only [List.cons_append, List.cons.injEq] at e
     obtain ⟨rfl, e⟩ := e
     exact Wq h2 B j A e
theorem aao {l : List Nat} : ∀ {n : Nat}, BV.allIn n l = true → ∀ m < n, m ∈ l
 | 0, _, m, h => by omega
 | n + 1, h, m, hm => by
   simp only [BV.allIn, Bool.and_eq_true] at h
   by_cases e : m = n
   ·subst e; exact mY.1 h.1
   ·exact aao h.2 m (by omega)
theorem acS {ops : Array Oper} : ∀ {l : List Nat} {t : List (Nat × List Nat)} {done : List Nat}, BV ops l t done = true → (∀ m x, x ∈ Ik t m → ∀ S, Uz ops S → S m → S x) →
 (∀ a i b, l = a ++ i :: b → acr ops (a.reverse ++ done) i) ∧ ∀ m < ops.size, m ∈ done ∨ m ∈ l
 | [], t, done, h, _ => by
   simp only [BV] at h
   exact ⟨fun a i b e => by simp at e, fun m hm => .inl (aao h m hm)⟩
 | i :: l, t, done, h, ht => by
   simp only [BV] at h
   split at h
   ·rename_i o ho
    simp only [Bool.and_eq_true] at h
    obtain ⟨hr, hp, h⟩ := h
    simp only [aai, ho, Bool.and_eq_true, Bool.not_eq_true'] at hr
    have hnot := kz hr.1
    have hdeps := ahS hr.2
    obtain ⟨k1, k2⟩ := acS h (fun m x hx S hS hm => by
     simp only [Ik] at hx
     cases hb : Nat.beq i m with
     | true =>
       rw [hb, cond_true] at hx
       have := ay hb
       subst this
       exact Jj ht hx S hS (hS i o hm ho)
     | false =>
       rw [hb, cond_false] at hx
       exact ht m x hx S hS hm)
    refine ⟨fun a j b e => ?_, fun m hm => ?_⟩
    ·cases a with
     | nil =>
       simp only [List.nil_append, List.cons.injEq] at e
       obtain ⟨rfl, rfl⟩ := e
       refine ⟨o, ho, by simpa using hdeps, by simpa using hnot, fun B j A hj => ?_⟩
       obtain ⟨h0, h1⟩ := Wq hp B j A (by simpa using hj)
       refine ⟨h0, ?_⟩
       rcases h1 with h1 | h1
       ·exact .inl fun S hS hd => Jj ht h1 S hS hd
       ·exact .inr h1
     | cons x a =>
       simp only [List.cons_append, List.cons.injEq] at e
       obtain ⟨rfl, e⟩ := e
       have := k1 a j b e
       simpa [List.append_assoc] using this
    ·rcases k2 m hm with h1 | h1
     ·rcases List.mem_cons.1 h1 with rfl | h1
      ·exact .inr (by simp)
      ·exact .inl h1
     ·exact .inr (by simp [h1])
   ·cases h
theorem Zk {i : Nat} {l σ : List Nat} (h : (i :: l).Sublist σ) : ∃ a b, σ = a ++ i :: b ∧ l.Sublist b := by
 induction σ with
 | nil => cases h
 | cons x σ ih =>
   cases h with
   | cons _ h =>
     obtain ⟨a, b, e, h2⟩ := ih h
     exact ⟨x :: a, b, by rw [e]; rfl, h2⟩
   | cons_cons _ h => exact ⟨[], σ, rfl, h⟩
theorem aaH {ops : Array Oper} {σ : List Nat} (hσ : ∀ a i b, σ = a ++ i :: b → acr ops a.reverse i) : σ.Nodup ∧ ∀ i ∈ σ, i < ops.size := by
 constructor
 ·have key : ∀ (b a : List Nat), σ = a ++ b → b.Nodup ∧ ∀ x ∈ b, x ∉ a := by
   intro b
   induction b with
   | nil => intro a _; exact ⟨List.nodup_nil, by simp⟩
   | cons i b ih =>
     intro a e
     obtain ⟨n1, n2⟩ := ih (a ++ [i]) (by rw [e]; simp)
     obtain ⟨o, _, _, hn, _⟩ := (hσ a i b e).ex
     refine ⟨List.nodup_cons.2 ⟨fun h => n2 i h (by simp), n1⟩, fun x hx => ?_⟩
     rcases List.mem_cons.1 hx with rfl | hx
     ·simpa using hn
     ·intro h
      exact n2 x hx (by simp [h])
  exact (key σ [] rfl).1
 ·intro i hi
  obtain ⟨a, b, e⟩ := List.append_of_mem hi
  obtain ⟨o, ho, _⟩ := (hσ a i b e).ex
  exact (Array.getElem?_eq_some_iff.1 ho).1
def SF (ops : Array Oper) (j m : Nat) : Prop := ∀ om, ops[m]? = some om → pq ops om j = true
theorem ad9 {R : Nat → Nat → Prop} {σ : List Nat} (h : ∀ a i b, σ = a ++ i :: b → ∀ j ∈ a, R j i) : σ.Pairwise R := by
 have key : ∀ n, n ≤ σ.length → (σ.take n).Pairwise R := by
  intro n
  induction n with
  | zero => intro _; simp
  | succ n ih =>
    intro hn
    have hg : σ[n]? = some σ[n] := List.getElem?_eq_getElem (by omega)
    rw [List.take_add_one, hg]
    refine List.pairwise_append.2 ⟨ih (by omega), by simp, fun j hj x hx => ?_⟩
    simp only [Option.toList_some, List.mem_singleton] at hx
    subst hx
    refine h (σ.take n) σ[n] (σ.drop (n + 1)) ?_ j hj
    rw [← List.drop_eq_getElem_cons (by omega), List.take_append_drop]
 have := key σ.length (Nat.le_refl _)
 rwa [List.take_length] at this
def LD (ops : Array Oper) (i : Nat) : List Nat → List Nat
 | [] => zy ops i
 | j :: p => Aq ops j (LD ops i p)
theorem agT {ops : Array Oper} {i s : Nat} : ∀ {p : List Nat}, s ∈ LD ops i p ↔ s ∈ zy ops i ∧ ∀ m ∈ p, (ops[m]?).bind (·.dst) ≠ some s
 | [] => by simp [LD]
 | j :: r => by
   simp only [LD, aaS, agT, List.mem_cons, forall_eq_or_imp]
   constructor
   ·rintro ⟨⟨h1, h2⟩, h3⟩; exact ⟨h1, h3, h2⟩
   ·rintro ⟨h1, h2, h3⟩; exact ⟨⟨h1, h3⟩, h2⟩
section
variable [Inhabited az]
end
theorem adL {ops : Array Oper} {i : Nat} {oi : Oper} (hi : ops[i]? = some oi) {post : List Nat} : ∀ {pre : List Nat} {st : St} {k : St → Option α} {r : α}, (pre ++ i :: post).Pairwise (SF ops) → (∀ p1 j p2, pre = p1 ++ j :: p2 → ∃ oj, ops[j]? = some oj ∧ (yZ ops oj oi || tX ops (LD ops i p2) oj oi || pJ ops (LD ops i p2) oj oi || tV ops (LD ops i p2) oj oi) = true) → Inv ops (pre ++ i :: post) st → Bv E ops (pre ++ i :: post) st k = some r → (evIL E ops (LD ops i pre) i oi st fun s => Bv E ops (pre ++ post) s k) = some r
 | [], st, k, r, _, _, _, hk => by
   rw [List.nil_append, Sz hi] at hk
   exact hk
 | j :: pre, st, k, r, hsf, hp, hinv, hk => by
   obtain ⟨oj, hj, hs⟩ := hp [] j pre rfl
   obtain ⟨hv, dj, hdj⟩ := agF hs
   have hcj : ∀ s : St, chkQ E ops j oj s = true := fun s => acB hv
   rw [List.cons_append, Sz hj, evI, hcj, cond_true] at hk
   rw [List.cons_append, List.pairwise_cons] at hsf
   obtain ⟨yj, fj⟩ := zY E ops (kK ops j) oj hv hdj
   have hk2 : (kW E ops (kK ops j) oj st fun s => evIL E ops (LD ops i pre) i oi s fun s => Bv E ops (pre ++ post) s k) = some r := by
    rw [fj.form, Option.bind_eq_some_iff] at hk ⊢
    obtain ⟨q, hq, hk⟩ := hk
    have hinv2 : Inv ops (pre ++ i :: post) (mkSt st oj.dst q.1 q.2) := Inv.made (fun m hm => hinv m (List.mem_cons_of_mem _ hm)) hj (fun m hm => hsf.1 m hm) (fj.made st q hq)
    exact ⟨q, hq, adL hi hsf.2 (fun p1 j' p2 e => hp (j :: p1) j' p2 (by rw [e]; rfl)) hinv2 hk⟩
   have e : ∀ s : St, Bv E ops (j :: pre ++ post) s k = kW E ops (kK ops j) oj s fun s => Bv E ops (pre ++ post) s k := fun s => by
    rw [List.cons_append, Sz hj, evI, hcj, cond_true]
   simp only [e]
   have hcl : kJ oj.op = true → kQ (jW oj) st := fun hm => hinv j (by simp) oj hj (by simp [nJ, hm])
   have hcl2 : nJ oi.op = true → kQ (jW oi) st := fun hm => hinv i (by simp) oi hi hm
   rw [Bool.or_eq_true, Bool.or_eq_true, Bool.or_eq_true] at hs
   rcases hs with ((hs | hs) | hs) | hs
   ·simp only [evIL, acB (adq hs), cond_true] at hk2 ⊢
    exact aiI hs hcl hcl2 hk2
   ·have hLD : LD ops i (j :: pre) = rmN dj (LD ops i pre) := by
     show Aq ops j (LD ops i pre) = _
     simp only [Aq, hj, Option.bind_some, hdj]
    rw [hLD]
    exact ahw hs hcl hdj hk2
   ·have hLD : LD ops i (j :: pre) = rmN dj (LD ops i pre) := by
     show Aq ops j (LD ops i pre) = _
     simp only [Aq, hj, Option.bind_some, hdj]
    rw [hLD]
    have hb : nJ oi.op = true := by
     simp only [pJ, Bool.and_eq_true] at hs
     simp [nJ, hs.1.2]
    exact agX hs hcl (hcl2 hb) hdj hk2
   ·have hLD : LD ops i (j :: pre) = rmN dj (LD ops i pre) := by
     show Aq ops j (LD ops i pre) = _
     simp only [Aq, hj, Option.bind_some, hdj]
    rw [hLD]
    exact TY hs hdj hk2
section
variable [Inhabited az]
end
theorem akr (L : LM) : V L (.tup []) undef := ⟨#[], rfl, by simp [VAll]⟩
section
variable [Inhabited az]
theorem ad1 {ops : Array Oper} (h : RelL F L st a w) {g : Bool} (hg : sK ops o st = some g) : Region.wanted o (yielded ops a.tmps) = g := by
 unfold sK at hg
 split at hg
 ·rename_i hgd
  have := Option.some.inj hg
  subst this
  simp [Region.wanted, hgd]
 ·rename_i j want hgd
  split at hg
  ·rename_i d b hy
   have hg' := Option.some.inj hg
   subst hg'
   have hyy : yielded ops a.tmps j = some b := by
    unfold Fv at hy
    rw [Option.bind_eq_some_iff] at hy
    obtain ⟨d', hd', hy⟩ := hy
    split at hy
    ·rename_i b' hs
     simp only [Option.some.injEq, Prod.mk.injEq] at hy
     obtain ⟨rfl, rfl⟩ := hy
     have hx := h.get (.tmp d')
     simp only [St.get, hs, V, Act.eval] at hx
     unfold yielded
     rw [hd']
     simp only [Option.bind_some]
     rw [Array.getD_eq_getD_getElem?] at hx
     cases hx' : a.tmps[d']? with
     | none => simp [hx', undef] at hx
     | some y => simp [hx'] at hx; rw [hx]
    ·simp at hy
   cases b <;> cases want <;> simp [Region.wanted, hgd, hyy]
  ·obtain ⟨hv, hg⟩ := ifB hg
   have hg' := Option.some.inj hg
   subst hg'
   have hno : yielded ops a.tmps j = none := by
    unfold JY at hv
    unfold yielded
    split at hv
    ·rename_i d hd
     rw [hd]
     simp only [Option.bind_some]
     split at hv
     ·rename_i l hs
      split at hv
      ·have hx := h.get (.tmp d)
       simp only [St.get, hs, V, Act.eval] at hx
       obtain ⟨arr, he, _⟩ := hx
       rw [Array.getD_eq_getD_getElem?] at he
       cases hx : a.tmps[d]? with
       | none => rfl
       | some y =>
         rw [hx] at he
         simp only [Option.getD_some] at he
         rw [he]
      ·cases hv
     ·cases hv
    ·cases hv
   simp [Region.wanted, hgd, hno]
end
theorem kQ.fresh {id : Nat} {b : Blk} (h : kQ (id / 64) st) : st.fresh id b = ⟨st.slots, st.heap ++ [(id, b)]⟩ := by
 have h1 : st.slots.map (iW id) = st.slots := by
  conv => rhs; rw [← List.map_id st.slots]
  refine List.map_congr_left fun x hx => ?_
  have := xZ (kX.1 h.1 x hx) rfl
  simp [iW, this]
 have h2 : ∀ hp : Heap, NK (id / 64) hp = false → pz id (del hp id) = hp := by
  intro hp
  induction hp with
  | nil => intro _; rfl
  | cons p hp ih =>
    intro hc
    obtain ⟨j, c⟩ := p
    simp only [NK, Bool.or_eq_false_iff] at hc
    obtain ⟨c1, c2, c3⟩ := hc
    have hne : Nat.beq j id = false := by
     cases hb : Nat.beq j id with
     | false => rfl
     | true =>
       have := ay hb
       subst this
       simp at c1
    simp only [del, hne, cond_false, pz, ih c3]
    congr 2
    cases c with
    | map => first | rfl | (cases h; done) | (simp at h; done) | (simp at *; done)
    | bld => first | rfl | (cases h; done) | (simp at h; done) | (simp at *; done)
    | rows => rfl
    | mix m e l =>
      simp only [mZ]
      congr 1
      conv => rhs; rw [← List.map_id l]
      refine List.map_congr_left fun x hx => ?_
      simp only [Blk.at] at c2
      have := xZ (kX.1 c2 x hx) rfl
      simp [iW, this]
 simp only [St.fresh, h1, h2 _ h.2]
theorem abj (o : Oper) : fQ o.dst / 64 = jW o := by
 unfold fQ jW
 simp
theorem agR {E : Env α} {q : Blk × AV} (h : IK E o st = some q) (hc : kQ (jW o) st) (κ : St → Option α) : evOp E o st κ = κ (St.put ⟨st.slots, st.heap ++ [(fQ o.dst, q.1)]⟩ o.dst q.2) := by
 unfold IK at h
 obtain ⟨hle, h⟩ := ifB h
 rw [← abj o] at hc
 have hf := fun b => kQ.fresh (b := b) hc
 cases hop : o.op with
 | alloc t =>
   rw [hop] at h
   simp only [Option.bind_eq_some_iff] at h
   obtain ⟨z, hz, h⟩ := h
   obtain ⟨hcc, h⟩ := ifB h
   have := Option.some.inj h
   subst this
   simp only [Bool.and_eq_true, Bool.not_eq_true'] at hcc
   simp only [evOp, hop, hz, Option.bind_some, hcc.1, cond_true, oq, hle, hcc.2, cond_false, hf]
 | box t x =>
   rw [hop] at h
   simp only at h
   obtain ⟨hcc, h⟩ := ifB h
   have := Option.some.inj h
   subst this
   simp only [Bool.and_eq_true, Bool.not_eq_true'] at hcc
   simp only [evOp, hop, hcc.1, cond_true, oq, hle, hcc.2, cond_false, hf]
 | buildSlice t len parts =>
   rw [hop] at h
   simp only [Option.bind_eq_some_iff] at h
   obtain ⟨b, hb, h⟩ := h
   cases hn : AV.namesAll (fQ o.dst) b.flat with
   | true => rw [hn, cond_true] at h; cases h
   | false =>
     rw [hn, cond_false] at h
     have := Option.some.inj h
     subst this
     simp only [evOp, hop, hb, Option.bind_some, oq, hle, cond_true, hn, cond_false, hf]
 | makeSlice t l c =>
   rw [hop] at h
   simp only at h
   split at h
   ·rename_i e n hu hl
    simp only [Option.bind_eq_some_iff] at h
    obtain ⟨ty, h1, z, h2, x, h3, sz, h4, h⟩ := h
    obtain ⟨h5, h⟩ := ifB h
    obtain ⟨h6, h⟩ := ifB h
    have := Option.some.inj h
    subst this
    simp only [evOp, hop, hu, hl, h1, h2, h3, h4, h5, h6, Option.bind_some, cond_true, oq, hle, hf]
   ·cases h
 | _ => rw [hop] at h; simp at h
structure NoId (j : Nat) (i : Imp) : Prop where
 slots : AV.namesAll j i.st.slots = false
 heap : ∀ p ∈ i.st.heap, p.1 ≠ j ∧ ∀ m e l, p.2 = .mix m e l → AV.namesAll j l = false
 args : AV.namesAll j i.args = false
 acc : AV.namesAll j i.acc = false
theorem qj {j : Nat} : ∀ {l : List AV}, AV.namesAll j l = false ↔ ∀ x ∈ l, x.names j = false
 | [] => by simp [AV.namesAll]
 | x :: l => by simp [AV.namesAll, qj (l := l)]
theorem Xy {j : Nat} {l : List AV} (h : AV.namesAll j l = false) : l.map (iW j) = l := by
 conv => rhs; rw [← List.map_id l]
 refine List.map_congr_left fun x hx => ?_
 simp [iW, qj.1 h x hx]
theorem NoId.fresh {j : Nat} {i : Imp} (h : NoId j i) (hn : i.n = j) (b : Blk) : i.fresh b = ⟨⟨i.st.slots, i.st.heap ++ [(j, b)]⟩, i.args, i.acc, j + 1⟩ := by
 have hh : ∀ hp : Heap, (∀ p ∈ hp, p.1 ≠ j ∧ ∀ m e l, p.2 = .mix m e l → AV.namesAll j l = false) → pz j (del hp j) = hp := by
  intro hp
  induction hp with
  | nil => intro _; rfl
  | cons p hp ih =>
    intro hc
    obtain ⟨x, c⟩ := p
    obtain ⟨c1, c2⟩ := hc (x, c) (by simp)
    have hne : Nat.beq x j = false := by
     cases hb : Nat.beq x j with
     | false => rfl
     | true => exact absurd (ay hb) c1
    simp only [del, hne, cond_false, pz, ih fun q hq => hc q (List.mem_cons_of_mem _ hq)]
    congr 2
    cases c with
    | map => first | rfl | (cases h; done) | (simp at h; done) | (simp at *; done)
    | bld => first | rfl | (cases h; done) | (simp at h; done) | (simp at *; done)
    | rows => rfl
    | mix m e l => simp only [mZ, Xy (c2 m e l rfl)]
 unfold Imp.fresh St.fresh
 rw [hn, Xy h.slots, hh _ h.heap, Xy h.args, Xy h.acc]
def Imp.with (i : Imp) (bs : List (Nat × Blk)) (m : Nat) : Imp := ⟨⟨i.st.slots, i.st.heap ++ bs⟩, i.args, i.acc, m⟩
theorem abE {n m M : Nat} {d : D} {bs : List (Nat × Blk)} {v : AV} {i : Imp} {K : Imp → AV → Option α} (h : impC n d = some (bs, v, m)) (hn : i.n = n) (hm : m ≤ M) (hf : ∀ j, n ≤ j → j < M → NoId j i) :
 EY i d K = K (i.with bs m) v ∧ (∀ j, m ≤ j → j < M → NoId j (i.with bs m)) ∧ ∀ j, m ≤ j → v.names j = false := by
 cases d with
 | sl e t l =>
   simp only [impC, Option.some.injEq, Prod.mk.injEq] at h
   obtain ⟨rfl, rfl, rfl⟩ := h
   have h0 := hf n (by omega) (by omega)
   refine ⟨?_, fun j a b => ?_, fun j a => ?_⟩
   ·simp only [EY, h0.fresh hn, hn]
    rfl
   ·have hj := hf j (by omega) b
    refine ⟨hj.slots, fun p hp => ?_, hj.args, hj.acc⟩
    rcases List.mem_append.1 hp with hp | hp
    ·exact hj.heap p hp
    ·simp only [List.mem_singleton] at hp
     subst hp
     exact ⟨by simp only; omega, fun m e l hx => by cases hx⟩
   ·simp only [AV.names]
    cases hb : Nat.beq n j with
    | false => rfl
    | true => have := ay hb; omega
 | same j => simp [impC, lK] at h
 | _ =>
   simp only [impC, Option.map_eq_some_iff, Prod.mk.injEq] at h
   obtain ⟨x, hx, rfl, rfl, rfl⟩ := h
   have hw : i.with [] n = i := by
    obtain ⟨⟨sl, hp⟩, ar, ac, n'⟩ := i
    simp only at hn
    subst hn
    simp [Imp.with]
   rw [hw]
   refine ⟨by simp only [EY, hx, Option.bind_some], hf, fun j _ => ?_⟩
   simp only [lK] at hx
   first
    | (have := Option.some.inj hx; subst this; rfl)
    | cases hx
theorem Imp.with_with (i : Imp) (as bs : List (Nat × Blk)) (m m' : Nat) : (i.with as m).with bs m' = i.with (as ++ bs) m' := by simp [Imp.with]
theorem ahH {n m : Nat} {ds : List D} {bs : List (Nat × Blk)} {vs : List AV} (h : JQ n ds = some (bs, vs, m)) : n ≤ m := (OX h).1
theorem Ry {M : Nat} : ∀ {ds : List D} {n m : Nat} {bs : List (Nat × Blk)} {vs : List AV} {i : Imp} {K : Imp → List AV → Option α}, JQ n ds = some (bs, vs, m) → i.n = n → m ≤ M → (∀ j, n ≤ j → j < M → NoId j i) →
 zJ i ds K = K (i.with bs m) vs ∧ (∀ j, m ≤ j → j < M → NoId j (i.with bs m)) ∧ ∀ j, m ≤ j → AV.namesAll j vs = false
 | [], n, m, bs, vs, i, K, h, hn, hm, hf => by
   simp only [JQ, Option.some.injEq, Prod.mk.injEq] at h
   obtain ⟨rfl, rfl, rfl⟩ := h
   have hw : i.with [] n = i := by
    obtain ⟨⟨sl, hp⟩, ar, ac, n'⟩ := i
    simp only at hn
    subst hn
    simp [Imp.with]
   rw [hw]
   exact ⟨rfl, hf, fun _ _ => rfl⟩
 | d :: ds, n, m, bs, vs, i, K, h, hn, hm, hf => by
   simp only [JQ, Option.bind_eq_some_iff, Option.map_eq_some_iff, Prod.mk.injEq] at h
   obtain ⟨⟨b1, v1, m1⟩, h1, ⟨b2, v2, m2⟩, h2, rfl, rfl, rfl⟩ := h
   simp only at *
   have hle := ahH h2
   obtain ⟨a1, a2, a3⟩ := abE (K := fun i v => zJ i ds fun i vs => K i (v :: vs)) h1 hn (by omega) hf
   obtain ⟨c1, c2, c3⟩ := Ry (i := i.with b1 m1) (K := fun i vs => K i (v1 :: vs)) h2 rfl hm a2
   rw [Imp.with_with] at c1 c2
   refine ⟨?_, c2, fun j hj => ?_⟩
   ·simp only [zJ]
    rw [a1, c1]
   ·simp only [AV.namesAll, a3 j (by omega), c3 j hj, Bool.or_false]
theorem ae1 {e : TypeId} {l : List AV} {m e' : Nat} {l' : List AV} (h : kZ 2 e l = .mix m e' l') : l' = l := by
 unfold kZ at h
 split at h
 ·split at h
  ·cases h
  ·injection h with _ _ h; exact h.symm
 ·injection h with _ _ h; exact h.symm
theorem akm {M : Nat} {n m : Nat} {d : D} {bs : List (Nat × Blk)} {v : AV} {i : Imp} {K : Imp → AV → Option α} (h : imp1 i.args n d = some (bs, v, m)) (hn : i.n = n) (hm : m ≤ M) (hf : ∀ j, n ≤ j → j < M → NoId j i) :
 imp i d K = K (i.with bs m) v ∧ (∀ j, m ≤ j → j < M → NoId j (i.with bs m)) ∧ ∀ j, m ≤ j → j < M → v.names j = false := by
 cases d with
 | agg l =>
   simp only [imp1, Option.map_eq_some_iff, Prod.mk.injEq] at h
   obtain ⟨⟨b1, v1, m1⟩, h1, rfl, rfl, rfl⟩ := h
   obtain ⟨c1, c2, c3⟩ := Ry (K := fun i vs => K i (.agg vs)) h1 hn hm hf
   exact ⟨by simp only [imp]; exact c1, c2, fun j hj _ => by simp only [AV.names]; exact c3 j hj⟩
 | ptr e l =>
   simp only [imp1, Option.map_eq_some_iff, Prod.mk.injEq] at h
   obtain ⟨⟨b1, v1, m1⟩, h1, rfl, rfl, rfl⟩ := h
   simp only at *
   obtain ⟨c1, c2, c3⟩ := Ry (M := M) (K := fun i vs => K (i.fresh (kZ 2 e vs)) (.ptr i.n 0 0)) h1 hn (by omega) hf
   have h0 := c2 m1 (by omega) (by omega)
   refine ⟨?_, fun j a b => ?_, fun j a _ => ?_⟩
   ·simp only [imp]
    rw [c1, h0.fresh rfl]
    simp [Imp.with]
   ·have hj := c2 j (by omega) b
    refine ⟨hj.slots, fun p hp => ?_, hj.args, hj.acc⟩
    simp only [Imp.with] at hp
    rw [← List.append_assoc] at hp
    rcases List.mem_append.1 hp with hp | hp
    ·exact hj.heap p hp
    ·simp only [List.mem_singleton] at hp
     subst hp
     refine ⟨by simp only; omega, fun m e l hx => ?_⟩
     rw [ae1 hx]
     exact c3 j (by omega)
   ·simp only [AV.names]
    cases hb : Nat.beq m1 j with
    | false => rfl
    | true => have := ay hb; omega
 | same x =>
   simp only [imp1, Option.map_eq_some_iff, Prod.mk.injEq] at h
   obtain ⟨u, hu, rfl, rfl, rfl⟩ := h
   have hw : i.with [] n = i := by
    obtain ⟨⟨sl, hp⟩, ar, ac, n'⟩ := i
    simp only at hn
    subst hn
    simp [Imp.with]
   rw [hw]
   refine ⟨by simp only [imp, hu, Option.bind_some], hf, fun j a b => ?_⟩
   exact qj.1 (hf j a b).args u (List.mem_of_getElem? hu)
 | _ =>
   unfold imp1 at h
   obtain ⟨a1, a2, a3⟩ := abE (K := K) h hn hm hf
   exact ⟨by simp only [imp]; exact a1, a2, fun j a _ => a3 j a⟩
theorem afZ {M : Nat} {avs : List AV} : ∀ {rs : List D} {n m : Nat} {bs : List (Nat × Blk)} {vs : List AV} {i : Imp} {K : Imp → Option α}, KJ avs n rs = some (bs, vs, m) → i.args = avs → i.n = n → m ≤ M → (∀ j, n ≤ j → j < M → NoId j i) →
 imps i rs K = K ⟨⟨i.st.slots, i.st.heap ++ bs⟩, i.args, i.acc ++ vs, m⟩
 | [], n, m, bs, vs, i, K, h, ha, hn, hm, hf => by
   simp only [KJ, Option.some.injEq, Prod.mk.injEq] at h
   obtain ⟨rfl, rfl, rfl⟩ := h
   obtain ⟨⟨sl, hp⟩, ar, ac, n'⟩ := i
   simp only at hn
   subst hn
   simp [imps]
 | d :: rs, n, m, bs, vs, i, K, h, ha, hn, hm, hf => by
   simp only [KJ, Option.bind_eq_some_iff, Option.map_eq_some_iff, Prod.mk.injEq] at h
   obtain ⟨⟨b1, v1, m1⟩, h1, ⟨b2, v2, m2⟩, h2, rfl, rfl, rfl⟩ := h
   simp only at *
   have hle := (OJ h2).1
   rw [← ha] at h1
   obtain ⟨a1, a2, a3⟩ := akm (M := M) (K := fun i v => imps { i with acc := i.acc ++ [v] } rs K) h1 hn (by omega) hf
   have hr := afZ (i := { i.with b1 m1 with acc := (i.with b1 m1).acc ++ [v1] }) (K := K) h2 ha rfl hm fun j a b => by
    have hj := a2 j a b
    refine ⟨hj.slots, hj.heap, hj.args, ?_⟩
    rw [qj]
    intro x hx
    rcases List.mem_append.1 hx with hx | hx
    ·exact qj.1 hj.acc x hx
    ·simp only [List.mem_singleton] at hx
     subst hx
     exact a3 j a b
   simp only [imps]
   rw [a1, hr]
   simp [Imp.with]
open Classical in
section
variable [Inhabited az]
theorem ah3 (hE : BX F E R) {ns : List Nat} (h : RelL F L st a w) (hcl : nJ o.op = true → kQ (jW o) st) (hg : Goes F k r next) (hk : vK E ns o st k = some r) : o.wp E.P a w next Q := by
 let N := st.heap.length
 let W (h' : Heap) : Heap := if nV (h'.drop N) (h'.take N) then gz (h'.drop N) (h'.take N) else h'
 have hW : ∀ h' j, look (W h') j = look h' j := fun h' j => by
  show look (if _ then _ else _) j = _
  split
  ·rename_i hc
   rw [YX hc]
   exact congrArg (fun x => look x j) (List.take_append_drop N h')
  ·rfl
 have hWb : ∀ (h0 : Heap) bs, h0.length = N → nV bs h0 → W (h0 ++ bs) = gz bs h0 := fun h0 bs hl hb => by
  show (if _ then _ else _) = _
  rw [← hl, List.drop_left, List.take_left, if_pos hb]
 have hWa : ∀ bs, nV bs st.heap → W (st.heap ++ bs) = gz bs st.heap := fun bs hb => hWb st.heap bs rfl hb
 have hgW : Goes F (fun s => k ⟨s.slots, W s.heap⟩) r next := fun st' a' w' hk' ⟨L', hr'⟩ => hg _ _ _ hk' ⟨L', hr'.looks fun j => hW st'.heap j⟩
 unfold vK at hk
 cases hm : kJ o.op with
 | true =>
   rw [hm, cond_true, Option.bind_eq_some_iff] at hk
   obtain ⟨q, hq, hk⟩ := hk
   obtain ⟨_, hk⟩ := ifB hk
   have hc := hcl (by simp [nJ, hm])
   refine BK (k := fun s => k ⟨s.slots, W s.heap⟩) hE h hgW ?_
   rw [agR hq hc]
   have hnew : nV [(fQ o.dst, q.1)] st.heap := ⟨hc.gone (abj o), by simp, trivial⟩
   have : (⟨(St.put ⟨st.slots, st.heap ++ [(fQ o.dst, q.1)]⟩ o.dst q.2).slots, W (St.put ⟨st.slots, st.heap ++ [(fQ o.dst, q.1)]⟩ o.dst q.2).heap⟩ : St) = mkSt st o.dst [(fQ o.dst, q.1)] q.2 := by
    cases hd : o.dst with
    | none =>
      rw [hd] at hnew
      simp only [St.put, mkSt, hWa _ hnew]
    | some d =>
      rw [hd] at hnew
      simp only [St.put, mkSt, hWa _ hnew]
   show k ⟨_, W _⟩ = some r
   rw [this]
   exact hk
 | false =>
   rw [hm, cond_false] at hk
   cases hv : pY o.op with
   | true =>
     rw [hv, cond_true] at hk
     exact BK hE h (fun st' a' w' hk' hr' => hg _ _ _ (ifB hk').2 hr') hk
   | false =>
     rw [hv, cond_false] at hk
     cases hcv : wZ o.op with
     | true =>
       rw [hcv, cond_true] at hk
       obtain ⟨c, f, hop, hcal, _, _⟩ := Ux hcv
       rw [hop] at hk
       simp only [hcal] at hk
       unfold abz at hk
       rw [Option.bind_eq_some_iff] at hk
       obtain ⟨⟨g, ds, avs, ids⟩, hp, hk⟩ := hk
       have hc := hcl (by simp [nJ, hcv])
       obtain ⟨caps, hf, hav, hids, hnd, hle, hds⟩ := abQ hp
       try simp only at hf hav hids hnd hds hk
       subst hav
       refine acL (k := fun s => k ⟨s.slots, W s.heap⟩) hE.hC hop hcal h hE.low hgW hf hids hnd hds hk fun res hres => ?_
       rw [Option.bind_eq_some_iff] at hres
       obtain ⟨h1, hback, hres⟩ := hres
       rw [Option.bind_eq_some_iff] at hres
       obtain ⟨q, hq, hres⟩ := hres
       obtain ⟨_, hres⟩ := ifB hres
       obtain ⟨vs, m, him, hm64, hq2⟩ := adI hq
       try simp only at him
       rw [hback]
       simp only [Option.bind_some, oq, hle, cond_true]
       have hc1 : kQ (jW o) (⟨st.slots, h1⟩ : St) := Sv hback hc
       have hno : ∀ j, fQ o.dst ≤ j → j < fQ o.dst + 64 → NoId j ⟨⟨st.slots, h1⟩, c.args.toList.map st.get ++ caps, [], fQ o.dst⟩ := fun j h1 h2 => by
        have hj : j / 64 = jW o := by
         have := abj o
         unfold fQ at h1 h2
         unfold jW
         omega
        refine ⟨qj.2 fun x hx => xZ (kX.1 hc1.1 x hx) hj, fun p hp => ?_, qj.2 fun x hx => ?_, rfl⟩
        ·obtain ⟨p1, p2⟩ := pW.1 hc1.2 p hp
         refine ⟨fun e => p1 (by rw [e]; exact hj), fun m e l he => ?_⟩
         rw [he] at p2
         simp only [Blk.at] at p2
         exact qj.2 fun x hx => xZ (kX.1 p2 x hx) hj
        ·rcases List.mem_append.1 hx with hx | hx
         ·obtain ⟨y, _, rfl⟩ := List.mem_map.1 hx
          exact xZ (hc.get y) hj
         ·have := hc.get f
          rw [hf] at this
          simp only [AV.at] at this
          exact xZ (kX.1 this x hx) hj
       rw [afZ (M := fQ o.dst + 64) him rfl rfl hm64 hno]
       have hnew : nV q.1 h1 := (OJ him).2.2 h1 fun j a1 a2 => by
        cases hl : look h1 j with
        | none => rfl
        | some b => exact absurd rfl ((hno j a1 (by omega)).heap _ (wK hl)).1
       have : (⟨(St.put ⟨st.slots, h1 ++ q.1⟩ o.dst q.2).slots, W (St.put ⟨st.slots, h1 ++ q.1⟩ o.dst q.2).heap⟩ : St) = mkSt ⟨st.slots, h1⟩ o.dst q.1 q.2 := by
        cases hd : o.dst <;> simp only [St.put, mkSt, hWb h1 _ (ag6 hback) hnew]
       show k ⟨(St.put ⟨st.slots, h1 ++ q.1⟩ o.dst (IX ([] ++ vs))).slots, W (St.put ⟨st.slots, h1 ++ q.1⟩ o.dst (IX ([] ++ vs))).heap⟩ = some r
       rw [List.nil_append, ← hq2, this]
       exact hres
     | false =>
       rw [hcv, cond_false] at hk
       split at hk
       ·exact BK hE h hg (ifB hk).2
       ·split at hk
        ·exact BK hE h hg hk
        ·cases hk
end
open Classical in
section
variable [Inhabited az]
theorem ahY (hE : BX F E R) {ops : Array Oper} {σ : List Nat} (hσ : ∀ a i b, σ = a ++ i :: b → acr ops a.reverse i) {k : St → Option α} {r : α} (hQ : ∀ st a w, k st = some r → Rel F st a w → Q .normal a w) :
 ∀ (n : Nat) {l : List Nat} {listed : Array Bool} {st : St} {a : Act} {w : World}, l.length ≤ n → l.Sublist σ → (∀ m, listed.getD m true = false ↔ m ∈ l) → listed.size = ops.size → Uz ops (fun m => listed.getD m false = true) →
   Inv ops l st → Bv E ops l st k = some r → Rel F st a w → wpAny E.P .any ops Q n listed a w := by
 obtain ⟨hnd, hlt⟩ := aaH hσ
 have hpw : σ.Pairwise (SF ops) := ad9 fun a i b e j hj om hom => by
  obtain ⟨o, ho, _, _, hp⟩ := (hσ a i b e).ex
  rw [ho] at hom
  have := Option.some.inj hom
  subst this
  obtain ⟨A, B, e2⟩ := List.append_of_mem (show j ∈ a.reverse by simpa using hj)
  exact (hp A j B e2).1
 have ready_l : ∀ {l : List Nat} {listed : Array Bool}, (∀ m, listed.getD m true = false ↔ m ∈ l) → ∀ i ∈ Region.ready .any ops listed, i ∈ l := fun h i hi => (h i).1 (mem_ready.1 hi).1
 have depmem : ∀ (es : List Edge) (e : Edge), e ∈ es → Region.binds .any e = true → e.on ∈ uZ es := by
  intro es
  induction es with
  | nil => intro e he; simp at he
  | cons x r ih =>
    intro e he hb
    simp only [uZ]
    rcases List.mem_cons.1 he with rfl | he
    ·rw [hb, cond_true]; simp
    ·cases Region.binds .any x with
     | true => rw [cond_true]; exact List.mem_cons_of_mem _ (ih e he hb)
     | false => rw [cond_false]; exact ih e he hb
 have memdep : ∀ (es : List Edge) (d : Nat), d ∈ uZ es → ∃ e ∈ es, Region.binds .any e = true ∧ e.on = d := by
  intro es
  induction es with
  | nil => intro d hd; simp [uZ] at hd
  | cons x r ih =>
    intro d hd
    simp only [uZ] at hd
    cases hb : Region.binds .any x with
    | true =>
      rw [hb, cond_true] at hd
      rcases List.mem_cons.1 hd with rfl | hd
      ·exact ⟨x, by simp, hb, rfl⟩
      ·obtain ⟨e, h1, h2⟩ := ih d hd
       exact ⟨e, by simp [h1], h2⟩
    | false =>
      rw [hb, cond_false] at hd
      obtain ⟨e, h1, h2⟩ := ih d hd
      exact ⟨e, by simp [h1], h2⟩
 have getD_lt : ∀ {listed : Array Bool} {m : Nat}, listed.size = ops.size → m < ops.size → listed.getD m true ≠ false → listed.getD m false = true := by
  intro listed m hs hm h
  have hm' : m < listed.size := by omega
  simp only [Array.getD_eq_getD_getElem?, Array.getElem?_eq_getElem hm', Option.getD_some] at h ⊢
  cases hb : listed[m] with
  | true => rfl
  | false => exact absurd hb h
 have head_ready : ∀ {l : List Nat} {listed : Array Bool} {i : Nat} {l' : List Nat}, l = i :: l' → l.Sublist σ → (∀ m, listed.getD m true = false ↔ m ∈ l) → listed.size = ops.size → i ∈ Region.ready .any ops listed := by
  intro l listed i l' e hsub hl hs
  subst e
  obtain ⟨a, b, eσ, hb⟩ := Zk hsub
  obtain ⟨o, ho, hd, hn, _⟩ := (hσ a i b eσ).ex
  refine mem_ready.2 ⟨(hl i).2 (by simp), o, ho, fun e he hbind => ?_⟩
  have hea : e.on ∈ a := by simpa using hd e.on (depmem _ e (by simpa using he) hbind)
  have hesz : e.on < ops.size := hlt _ (by rw [eσ]; simp [hea])
  refine getD_lt hs hesz fun hf => ?_
  have hin := (hl e.on).1 hf
  rw [eσ] at hnd
  have hdis := (List.nodup_append.1 hnd).2.2 e.on hea
  rcases List.mem_cons.1 hin with h1 | h1
  ·exact hdis i (by simp) h1
  ·exact hdis e.on (by simp [hb.subset h1]) rfl
 intro n
 induction n with
 | zero =>
   intro l listed st a w hlen hsub hl hs hc hinv hk hrel
   have hnil : l = [] := List.eq_nil_of_length_eq_zero (by omega)
   subst hnil
   refine ⟨List.eq_nil_iff_forall_not_mem.2 fun i hi => by have := ready_l hl i hi; simp at this, hQ st a w hk hrel⟩
 | succ n ih =>
   intro l listed st a w hlen hsub hl hs hc hinv hk hrel
   refine ⟨fun hr => ?_, fun i hi => ?_⟩
   ·cases l with
    | nil => exact hQ st a w hk hrel
    | cons i l' =>
      have := head_ready rfl hsub hl hs
      rw [hr] at this
      simp at this
   ·have hil := ready_l hl i hi
    obtain ⟨pre, post, rfl⟩ := List.append_of_mem hil
    obtain ⟨r1, r2, eσ, hpre, hpost⟩ := List.append_sublist_iff.1 hsub
    obtain ⟨a2, b, e2, hb⟩ := Zk hpost
    obtain ⟨oi, hoi, hd, hn, hpair⟩ := (hσ (r1 ++ a2) i b (by rw [eσ, e2, List.append_assoc])).ex
    have hready := mem_ready.1 hi
    have hdeps : ∀ e ∈ uZ oi.after.toList, listed.getD e false = true := fun d hd => by
     obtain ⟨e, he, hbind, rfl⟩ := memdep _ d hd
     obtain ⟨_, o2, ho2, hall⟩ := hready
     rw [hoi] at ho2
     have := Option.some.inj ho2
     subst this
     exact hall e (by simpa using he) hbind
    have hswap2 : ∀ p1 j p2, pre = p1 ++ j :: p2 → ∃ oj, ops[j]? = some oj ∧ (yZ ops oj oi || tX ops (LD ops i p2) oj oi || pJ ops (LD ops i p2) oj oi || tV ops (LD ops i p2) oj oi) = true ∧ pq ops oj i = true := fun p1 j p2 ep => by
     have hjp : j ∈ pre := by rw [ep]; simp
     rw [ep] at hpre
     obtain ⟨s1, s2, er, _, hs2⟩ := List.append_sublist_iff.1 hpre
     obtain ⟨a3, b3, e3, hb3⟩ := Zk hs2
     have hsplit : (r1 ++ a2).reverse = (b3 ++ a2).reverse ++ j :: (s1 ++ a3).reverse := by
      rw [er, e3]; simp
     obtain ⟨_, hor⟩ := hpair _ j _ hsplit
     rcases hor with h1 | ⟨oj, h1, h2, h3⟩
     ·exfalso
      have h2 := h1 _ hc hdeps
      have h3 := (hl j).2 (by simp [hjp])
      have hjs : j < listed.size := by rw [hs]; exact hlt j (by rw [eσ, er, e3]; simp)
      simp only [Array.getD_eq_getD_getElem?, Array.getElem?_eq_getElem hjs, Option.getD_some] at h2 h3
      rw [h2] at h3
      cases h3
     ·refine ⟨oj, h1, ?_, h3⟩
      have hsub : ∀ s ∈ uV ops (zy ops i) (b3 ++ a2).reverse, s ∈ LD ops i p2 := fun s hs => by
       obtain ⟨q1, q2⟩ := Vz.1 hs
       exact agT.2 ⟨q1, fun m hm => q2 m (by simp [hb3.subset hm])⟩
      rw [Bool.or_eq_true, Bool.or_eq_true, Bool.or_eq_true] at h2 ⊢
      rcases h2 with ((h2 | h2) | h2) | h2
      ·exact .inl (.inl (.inl h2))
      ·exact .inl (.inl (.inr (acA h2 hsub)))
      ·exact .inl (.inr (acp h2 hsub))
      ·exact .inr (ady h2 hsub)
    have hswap : ∀ p1 j p2, pre = p1 ++ j :: p2 → ∃ oj, ops[j]? = some oj ∧ (yZ ops oj oi || tX ops (LD ops i p2) oj oi || pJ ops (LD ops i p2) oj oi || tV ops (LD ops i p2) oj oi) = true := fun p1 j p2 ep => by
     obtain ⟨oj, h1, h2, _⟩ := hswap2 p1 j p2 ep
     exact ⟨oj, h1, h2⟩
    have hpl := hpw.sublist hsub
    have hfree : ∀ m ∈ pre ++ post, ∀ om, ops[m]? = some om → pq ops om i = true := fun m hm om hom => by
     rcases List.mem_append.1 hm with hm | hm
     ·obtain ⟨p1, p2, ep⟩ := List.append_of_mem hm
      obtain ⟨oj, h1, _, h3⟩ := hswap2 p1 m p2 ep
      rw [h1] at hom
      have := Option.some.inj hom
      subst this
      exact h3
     ·have := (List.pairwise_append.1 hpl).2.1
      exact (List.pairwise_cons.1 this).1 m hm om hom
    have hinv2 : Inv ops (pre ++ post) st := fun m hm => hinv m (by
     rcases List.mem_append.1 hm with hm | hm
     ·simp [hm]
     ·simp [hm])
    have hfront := afl hoi hinv2 hfree (adL hoi hpl hswap hinv hk)
    unfold wpOp
    rw [hoi]
    have hnext : Goes F (fun s => if Inv ops (pre ++ post) s then Bv E ops (pre ++ post) s k else none) r (wpAny E.P .any ops Q n (listed.setIfInBounds i true)) := by
     intro st' a' w' hk' hr'
     have hk2 : (if Inv ops (pre ++ post) st' then Bv E ops (pre ++ post) st' k else none) = some r := hk'
     have hi2 : Inv ops (pre ++ post) st' := by
      rcases Classical.em (Inv ops (pre ++ post) st') with h | h
      ·exact h
      ·rw [if_neg h] at hk2; cases hk2
     rw [if_pos hi2] at hk2
     have hk' := hk2
     have hlnd : (pre ++ i :: post).Nodup := hnd.sublist hsub
     have hisz : i < listed.size := by rw [hs]; exact hlt i (by rw [eσ, e2]; simp)
     refine ih (l := pre ++ post) (by simp at hlen ⊢; omega) ?_ (fun m => ?_) (by simpa using hs) ?_ hi2 hk' hr'
     ·exact List.Sublist.trans (List.Sublist.append (List.Sublist.refl _) (List.sublist_cons_self _ _)) hsub
     ·by_cases hm : m = i
      ·subst hm
       have hni : m ∉ pre ++ post := by
        have := List.nodup_append.1 hlnd
        have h2 := List.nodup_cons.1 this.2.1
        intro h
        rcases List.mem_append.1 h with h | h
        ·exact this.2.2 m h m (by simp) rfl
        ·exact h2.1 h
       simp [Array.getD_eq_getD_getElem?, hisz]
       simpa using hni
      ·have e1 : (listed.setIfInBounds i true).getD m true = listed.getD m true := by
        simp [Array.getD_eq_getD_getElem?, Ne.symm hm]
       rw [e1, hl m]
       simp [hm]
     ·intro m om hm hom e he
      by_cases hei : e = i
      ·subst hei
       simp [Array.getD_eq_getD_getElem?, hisz]
      ·have e1 : (listed.setIfInBounds i true).getD e false = listed.getD e false := by
        simp [Array.getD_eq_getD_getElem?, Ne.symm hei]
       show (listed.setIfInBounds i true).getD e false = true
       rw [e1]
       by_cases hmi : m = i
       ·subst hmi
        rw [hoi] at hom
        have := Option.some.inj hom
        subst this
        exact hdeps e he
       ·have e2 : (listed.setIfInBounds i true).getD m false = listed.getD m false := by
         simp [Array.getD_eq_getD_getElem?, Ne.symm hmi]
        have hm' : (listed.setIfInBounds i true).getD m false = true := hm
        rw [e2] at hm'
        exact hc m om hm' hom e he
    obtain ⟨L, hL⟩ := hrel
    unfold evIL at hfront
    obtain ⟨_, hfront⟩ := ifB hfront
    unfold kW at hfront
    rw [Option.bind_eq_some_iff] at hfront
    obtain ⟨g, hg, hfront⟩ := hfront
    have hwant := ad1 hL hg
    cases g with
    | true =>
      simp only [hwant, if_true]
      rw [cond_true] at hfront
      exact .inl (ah3 hE hL (fun hm => hinv i (by simp) oi hoi hm) hnext hfront)
    | false =>
      simp only [hwant, Bool.false_eq_true, if_false]
      rw [cond_false] at hfront
      exact hnext _ _ _ hfront ⟨L, hL.put (akr _) oi.dst⟩
end
theorem Jz (ops : Array Oper) : ∀ (n : Nat) (done : List Nat), (CY ops n done).length ≤ n + done.length
 | 0, done => by simp [CY]
 | n + 1, done => by
   simp only [CY]
   split
   ·rename_i i _
    have := Jz ops n (i :: done)
    simp only [List.length_cons] at this
    omega
   ·split
    ·rename_i i _
     have := Jz ops n (i :: done)
     simp only [List.length_cons] at this
     omega
    ·simp
theorem abb (o : Oper) (hm : nJ o.op = true) : ∀ (l : List Oper), o ∈ l → jW o ∈ nX l := by
 intro l
 induction l with
 | nil => intro ho; simp at ho
 | cons x r ih =>
   intro ho
   rcases List.mem_cons.1 ho with h | ho
   ·subst h
    rw [show nX (o :: r) = (bif nJ o.op then jW o :: nX r else nX r) from rfl, hm, cond_true]
    exact List.mem_cons_self
   ·have := ih ho
    rw [show nX (x :: r) = (bif nJ x.op then jW x :: nX r else nX r) from rfl]
    cases nJ x.op with
    | true => rw [cond_true]; exact List.mem_cons_of_mem _ this
    | false => rw [cond_false]; exact this
theorem adQ (ops : Array Oper) (l : List Nat) (st : St) : Inv ops l (dropAll (nX ops.toList) st) := fun i hi o ho hm =>
 UY _ st _ (.inl (abb o hm _ (by
  have := Array.mem_of_getElem? ho
  simpa using this)))
section
variable [Inhabited az]
theorem agz (hE : BX F E R) {ops : Array Oper} {id : Nat} {k : St → Option α} {r : α} (hQ : ∀ st a w, k st = some r → Rel F st a w → Q .normal a w) (hk : ada E ops st k = some r) {a : Act} {w : World} (h : Rel F st a w) : (Code.region id ops true).wp E.P Q a w := by
 unfold ada at hk
 obtain ⟨hc, hk⟩ := ifB hk
 simp only [Bool.and_eq_true] at hc
 obtain ⟨h1, h2⟩ := acS hc.2 (fun m x hx => by simp [Ik] at hx)
 have hσ : ∀ a i b, CY ops ops.size [] = a ++ i :: b → acr ops a.reverse i := fun a i b e => by
  have := h1 a i b e
  simpa using this
 obtain ⟨hnd, hlt⟩ := aaH hσ
 refine wp_region_any hc.1 ?_
 refine ahY hE hσ hQ ops.size (l := CY ops ops.size []) ?_ (List.Sublist.refl _) (fun m => ?_) (by simp) (fun m om hm hom => ?_) (adQ ops _ st) hk ?_
 ·have := Jz ops ops.size []
  simpa using this
 ·constructor
  ·intro hf
   have hm : m < ops.size := by
    rcases Nat.lt_or_ge m ops.size with h | h
    ·exact h
    ·simp [Array.getD_eq_getD_getElem?, Nat.not_lt.2 h] at hf
   rcases h2 m hm with h | h
   ·simp at h
   ·exact h
  ·intro hm
   have := hlt m hm
   simp [Array.getD_eq_getD_getElem?, this]
 ·exfalso
  rcases Nat.lt_or_ge m ops.size with h | h
  ·simp [Array.getD_eq_getD_getElem?, h] at hm
  ·simp [Array.getD_eq_getD_getElem?, Nat.not_lt.2 h] at hm
 ·refine Rel.dropAll (nX ops.toList) ?_
  obtain ⟨L, hL⟩ := h
  exact ⟨L, { hL with
   heap := fun id b hb => by
    obtain ⟨l, hl, hbl⟩ := hL.heap id b hb
    exact ⟨l, hl, ⟨hbl.hw, hbl.hn, hbl.hm, hbl.le, hbl.cells, hbl.ro, hbl.own, hbl.m1, hbl.m2, hbl.nb⟩⟩
   below := ⟨hL.below.os, hL.below.tape, hL.below.output, hL.below.size, hL.below.block, fun q => Nat.le_trans (hL.below.drawn q) (Nat.le_succ _)⟩
   maps := hL.maps.tr _root_.id (fun _ _ h _ => ⟨h, rfl⟩) (fun _ _ _ _ _ _ _ _ h => h) (fun _ _ _ _ h => h) (fun _ _ _ => rfl) (fun _ _ hx => .inl hx) }⟩
end
end Go.Ev
