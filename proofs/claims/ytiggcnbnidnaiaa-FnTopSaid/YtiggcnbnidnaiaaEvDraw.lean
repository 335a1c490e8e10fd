/- Regions that draw their order: read in one order, they hold in every order. -/
import Derived.Test.YtiggcnbnidnaiaaEvCode
import Derived.Orders
namespace Go.Ev
open Go.RowKit
variable {α : Type} {P : Program} {w : World} {F : Fix} {L : LM} {st : St} {a : Act} {r : α}
variable {R : Res → Act → World → Prop} {E : Env α} {o : Oper} {k : St → Option α} {next : Act → World → Prop} {Q : Exit → Act → World → Prop}
theorem dX {β γ : Type} (c : Bool) (x y : Option β) (f : β → Option γ) : (bif c then x else y).bind f = bif c then x.bind f else y.bind f := by cases c <;> rfl
theorem amO {x : Operand} {d : Nat} {v : AV} (h : d ∉ lw [x]) : (st.put (some d) v).get x = st.get x := by
 cases x with
 | tmp t =>
   simp only [lw, List.mem_singleton] at h
   simp only [St.get, St.put, List.getD_eq_getElem?_getD, List.getElem?_set_ne h]
 | _ => rfl
theorem aiG {β : Type} {eqs : TypeId → Nat → Bool} {t : TypeId} {op : BinOp} {x y : AV} {κ : AV → Option β} : abU P eqs t op x y κ = (abU P eqs t op x y some).bind κ := by
 unfold abU
 split <;> try rfl
 all_goals first
  | (rw [dX]; rfl)
  | (split <;> first
      | rfl
      | (split <;> first
          | rfl
          | (rw [dX]; rfl)))
  | (rw [dX, Option.bind_assoc]; rfl)
theorem Oj {β : Type} {l : List β} : ∀ {n i : Nat} {γ : Type} {κ : List β → Option γ}, Oy l i n κ = (Oy l i n some).bind κ
 | 0, i, γ, κ => rfl
 | n + 1, i, γ, κ => by
   simp only [Oy]
   cases l[i]? with
   | none => rfl
   | some x =>
     simp only [Option.bind_some]
     rw [Oj (n := n) (κ := fun r => κ (x :: r)), Oj (n := n) (κ := fun r => some (x :: r)), Option.bind_assoc]
     rfl
theorem afD {γ : Type} {b : Blk} {row col n : Nat} {κ : List AV → Option γ} : b.read row col n κ = (b.read row col n some).bind κ := by
 cases b with
 | map => first | rfl | (cases h; done) | (simp at h; done) | (simp at *; done)
 | bld => first | rfl | (cases h; done) | (simp at h; done) | (simp at *; done)
 | mix m e l =>
   simp only [Blk.read]
   rw [dX]
   rfl
 | rows m e t l =>
   simp only [Blk.read]
   rw [dX, dX, dX]
   rw [Oj (κ := fun xs => κ (xs.flatMap t.enc)), Oj (κ := fun xs => some (xs.flatMap t.enc)), Option.bind_assoc]
   cases l[row]? <;> rfl
theorem aaX {γ : Type} {f : Int → Int → Int} {ka : IntKind} : ∀ {l : List AV} {x : Int} {κ : AV → Option γ}, EQ f ka x l κ = (EQ f ka x l some).bind κ
 | [], x, κ => rfl
 | y :: l, x, κ => by
   cases y with
   | int kb n =>
     simp only [EQ]
     split
     ·exact aaX
     ·rfl
   | _ => rfl
theorem aiJ {γ : Type} {cs : List AV} {κ : AV → Option γ} : Vq cs κ = (Vq cs some).bind κ := by
 unfold Vq
 split <;> rfl
theorem iW {β γ : Type} {x : Option β} {f g : β → Option γ} (h : ∀ b, f b = g b) : x.bind f = x.bind g := by
 cases x with
 | none => rfl
 | some b => exact h b
theorem aaW {j id : Nat} {b' : Blk} (hne : j ≠ id) : ∀ {h : Heap}, look (upd h id b') j = look h j
 | [] => by
   have : Nat.beq id j = false := by
    cases hb : Nat.beq id j with
    | false => rfl
    | true => exact absurd (aJ hb).symm hne
   simp [upd, look, this]
 | (i, c) :: r => by
   simp only [upd]
   cases hb : Nat.beq i id with
   | true =>
     have := aJ hb
     subst this
     have hf : Nat.beq i j = false := by
      cases hb : Nat.beq i j with
      | false => rfl
      | true => exact absurd (aJ hb).symm hne
     simp [look, hf]
   | false =>
     simp only [cond_false, look]
     cases Nat.beq i j with
     | true => rfl
     | false => simp only [cond_false]; exact aaW hne
theorem Dk {γ : Type} {t : Ty} : ∀ {vs : List AV} {l : List t.den} {i : Nat} {κ : List t.den → Option γ}, yV t l i vs κ = (yV t l i vs some).bind κ
 | [], l, i, κ => rfl
 | v :: vs, l, i, κ => by
   simp only [yV]
   cases l[i]? with
   | none => rfl
   | some _ =>
     simp only [Option.bind_some]
     cases t.dec [v] with
     | none => rfl
     | some x => simp only [Option.bind_some]; exact Dk
theorem Yj {γ : Type} {b : Blk} {row col : Nat} {vs : List AV} {κ : Blk → Option γ} : b.write row col vs κ = (b.write row col vs some).bind κ := by
 unfold Blk.write
 rw [dX]
 cases b with
 | map => first | rfl | (cases h; done) | (simp at h; done) | (simp at *; done)
 | bld e eb t =>
   simp only
   rw [dX]
   rfl
 | mix m e l =>
   simp only
   rw [dX]
   rfl
 | rows m e t l =>
   simp only
   rw [dX, dX, dX]
   rw [Dk (κ := fun l' => κ (Blk.rows m e t l')), Dk (κ := fun l' => some (Blk.rows m e t l')), Option.bind_assoc]
   cases l[row]? with
   | none => rfl
   | some x => simp only [Option.bind_some]; cases ael t x col vs <;> rfl
theorem pW {h : Heap} {x : Operand} : St.get ⟨st.slots, h⟩ x = st.get x := by cases x <;> rfl
theorem VJ {j d : Nat} (h : Nat.beq (j / 64) d = false) : j / 64 ≠ d := iQ h
theorem aeS {id : Nat} {b b' : Blk} (hw : b'.w = b.w) (hn : b'.n = b.n) {hp : Heap} (hb : look hp id = some b) (j : Nat) {β : Type} (f : Blk → Option β) (hf : ∀ c c' : Blk, c.w = c'.w → c.n = c'.n → f c = f c') : (look (upd hp id b') j).bind f = (look hp j).bind f := by
 rw [jY]
 split
 ·rename_i e
  subst e
  rw [hb]
  exact hf _ _ hw hn
 ·rfl
theorem ab5 {t : Ty} : ∀ {vs : List AV} {l l' : List t.den} {i : Nat}, yV t l i vs some = some l' → l'.length = l.length
 | [], l, l', i, h => by
   simp only [yV] at h
   have := Option.some.inj h
   rw [this]
 | v :: r, l, l', i, h => by
   simp only [yV, Option.bind_eq_some_iff] at h
   obtain ⟨_, _, x, _, h⟩ := h
   have := ab5 h
   simpa using this
theorem ahF {b b' : Blk} {row col : Nat} {vs : List AV} (h : b.write row col vs some = some b') : b'.w = b.w ∧ b'.n = b.n := by
 unfold Blk.write at h
 cases hc : (Nat.beq b.mode 0 && !b.isBld || !gz vs) with
 | true => rw [hc, cond_true] at h; cases h
 | false =>
   rw [hc, cond_false] at h
   cases b with
   | map => first | rfl | (cases h; done) | (simp at h; done) | (simp at *; done)
   | bld e eb t =>
     simp only at h
     obtain ⟨_, h⟩ := ifB h
     have := Option.some.inj h
     subst this
     exact ⟨rfl, rfl⟩
   | mix m e l =>
     simp only at h
     obtain ⟨_, h⟩ := ifB h
     have := Option.some.inj h
     subst this
     exact ⟨rfl, by simp [Blk.n, AY]⟩
   | rows m e t l =>
     simp only at h
     cases h1 : Nat.beq t.w 1 with
     | true =>
       rw [h1, cond_true] at h
       obtain ⟨_, h⟩ := ifB h
       rw [Dk, Option.bind_eq_some_iff] at h
       obtain ⟨l', h2, h⟩ := h
       have := Option.some.inj h
       subst this
       exact ⟨rfl, ab5 h2⟩
     | false =>
       rw [h1, cond_false] at h
       obtain ⟨_, h⟩ := ifB h
       simp only [Option.bind_eq_some_iff] at h
       obtain ⟨x, _, y, _, h⟩ := h
       have := Option.some.inj h
       subst this
       exact ⟨rfl, by simp [Blk.n]⟩
mutual
theorem agG : ∀ (v : AV) {j : Nat}, v.names j = true → v.at (j / 64) = true
 | .ptr i _ _, j, h => by
   simp only [AV.names] at h
   have := aJ h
   subst this
   simp [AV.at]
 | .sl i, j, h => by
   simp only [AV.names] at h
   have := aJ h
   subst this
   simp [AV.at]
 | .sub i _ _, j, h => by
   simp only [AV.names] at h
   have := aJ h
   subst this
   simp [AV.at]
 | .map i, j, h => by
   simp only [AV.names] at h
   have := aJ h
   subst this
   simp [AV.at]
 | .agg l, j, h => by
   simp only [AV.names] at h
   simp only [AV.at]
   exact Vk l h
 | .tup l, j, h => by
   simp only [AV.names] at h
   simp only [AV.at]
   exact Vk l h
 | .fn _ l, j, h => by
   simp only [AV.names] at h
   simp only [AV.at]
   exact Vk l h
 | .undef, _, h => by simp [AV.names] at h
 | .int _ _, _, h => by simp [AV.names] at h
 | .bool _, _, h => by simp [AV.names] at h
 | .str _, _, h => by simp [AV.names] at h
 | .nilptr, _, h => by simp [AV.names] at h
 | .nilsl, _, h => by simp [AV.names] at h
 | .emp, _, h => by simp [AV.names] at h
theorem Vk : ∀ (l : List AV) {j : Nat}, AV.namesAll j l = true → AV.atAll (j / 64) l = true
 | [], _, h => by simp [AV.namesAll] at h
 | x :: l, j, h => by
   simp only [AV.namesAll, Bool.or_eq_true] at h
   simp only [AV.atAll, Bool.or_eq_true]
   rcases h with h | h
   ·exact .inl (agG x h)
   ·exact .inr (Vk l h)
end
theorem Ez {v : AV} {d j : Nat} (h : v.at d = false) (hj : j / 64 = d) : v.names j = false := by
 cases hn : v.names j with
 | false => rfl
 | true =>
   have := agG v hn
   rw [hj, h] at this
   cases this
theorem Yz {γ : Type} {v : Option AV} {d h : Nat} {κ : Nat → Option γ} : mW v d h κ = (mW v d h some).bind κ := by
 unfold mW
 split
 ·rfl
 ·rw [dX]; rfl
 ·rfl
theorem Nz {γ : Type} {v u : Option AV} {d d2 h : Nat} {f : Nat → Nat → AV} {κ : AV → Option γ} : (mW v d h fun a => mW u d2 a fun b => κ (f a b)) = (mW v d h fun a => mW u d2 a fun b => some (f a b)).bind κ := by
 rw [Yz, Yz (κ := fun a => mW u d2 a fun b => some (f a b)), Option.bind_assoc]
 refine iW fun a => ?_
 rw [Yz, Yz (κ := fun b => some (f a b)), Option.bind_assoc]
 rfl
theorem afO {γ : Type} {P : Program} {T : TypeId} {x : AV} {lo hi mx : Option AV} {h : Heap} {κ : AV → Option γ} : FZ P T x lo hi mx h κ = (FZ P T x lo hi mx h some).bind κ := by
 unfold FZ
 split
 ·split
  ·exact Nz
  ·rfl
 ·split
  ·simp only [Option.bind_assoc]
   refine iW fun b => iW fun s => ?_
   rw [dX]
   simp only [Option.bind_none]
   congr 1
   exact Nz (f := fun h l => AV.sub _ l (h - l))
  ·simp only [Option.bind_assoc]
   refine iW fun b => iW fun s => ?_
   rw [dX]
   simp only [Option.bind_none]
   congr 1
   exact Nz (f := fun h l => AV.sub _ (pX _ l 1) (h - l))
  ·simp only [Option.bind_assoc]
   exact iW fun s => Nz (f := fun _ _ => AV.nilsl)
  ·simp only [Option.bind_assoc]
   exact iW fun s => Nz (f := fun _ _ => AV.emp)
  ·rfl
 ·simp only [Option.bind_assoc]
  refine iW fun s => ?_
  split <;> rfl
 ·rfl
theorem ab6 {P : Program} {T : TypeId} {x : AV} {lo hi mx : Option AV} {h h' : Heap} {κ : AV → Option α} (hl : ∀ id, x.names id = true → ∀ (f : Blk → Option α), (∀ c c' : Blk, c.w = c'.w → c.n = c'.n → f c = f c') → (look h' id).bind f = (look h id).bind f) : FZ P T x lo hi mx h' κ = FZ P T x lo hi mx h κ := by
 unfold FZ
 split
 ·rfl
 ·split
  ·rename_i id
   refine hl id (by simp [AV.names]) _ fun c c' h1 h2 => ?_
   simp only [h1, h2]
  ·rename_i id a n
   refine hl id (by simp [AV.names]) _ fun c c' h1 h2 => ?_
   simp only [h1]
  ·rfl
  ·rfl
  ·rfl
 ·rfl
 ·rfl
theorem ahb (E : Env α) (o : Oper) (h : tq o.op = true) : ∃ y : St → Option AV, (∀ st k, evOp E o st k = (y st).bind fun x => k (st.put o.dst x)) ∧ (∀ st st' : St, (∀ x ∈ o.op.operands.toList, st'.get x = st.get x) → st'.heap = st.heap → y st' = y st) ∧ (gq o.op = true → ∀ (st : St) (h : Heap), y ⟨st.slots, h⟩ = y st) ∧
 (∀ l, kK o.op l = true → ∀ (st : St) (id : Nat) (b' : Blk), (∀ s ∈ l, ∃ j r c, st.slots.getD s .undef = .ptr j r c ∧ j ≠ id) → y ⟨st.slots, upd st.heap id b'⟩ = y st) ∧
 (∀ (st : St) (h' : Heap), (∀ x ∈ o.op.operands.toList, ∀ id, (st.get x).names id = true → look h' id = look st.heap id) → y ⟨st.slots, h'⟩ = y st) ∧
 (nZ o.op = true → ∀ (st : St) (h' : Heap), (∀ x ∈ o.op.operands.toList, ∀ j, (st.get x).names j = true → ∀ (β : Type) (f : Blk → Option β), (∀ c c' : Blk, c.w = c'.w → c.n = c'.n → f c = f c') → (look h' j).bind f = (look st.heap j).bind f) → y ⟨st.slots, h'⟩ = y st) := by
 cases hop : o.op <;> rw [hop] at h <;> simp only [tq] at h <;> try (cases h; done)
 case move x =>
  refine ⟨fun st => some (st.get x), fun st k => by simp only [evOp, hop]; rfl, fun st st' hd hhp => ?_, fun hm st h => ?_, fun l hl st id b' hs => ?_, fun st h' hl => ?_, fun hsh => by simp [nZ] at hsh⟩
  simp only [hd x (by simp [Op.operands])]
  ·first
    | rfl
    | (simp [gq] at hm; done)
    | (simp [gq, *] at hm; done)
  ·simp [kK] at hl
  ·rfl
 case nilCheck x =>
  refine ⟨fun st => match st.get x with
   | .ptr id r c => some (.ptr id r c)
   | _ => none, fun st k => ?_, fun st st' hd hhp => ?_, fun hm st h => ?_, fun l hl st id b' hs => ?_, fun st h' hl => ?_, fun hsh => by simp [nZ] at hsh⟩
  ·simp only [evOp, hop]
   cases st.get x <;> rfl
  ·simp only [hd x (by simp [Op.operands])]
  ·rfl
  ·simp [kK] at hl
  ·rfl
 case slice T x lo hi mx =>
  refine ⟨fun st => FZ E.P T (st.get x) (lo.map st.get) (hi.map st.get) (mx.map st.get) st.heap some, fun st k => ?_, fun st st' hd hhp => ?_, fun hm st h => ?_, fun l hl st id b' hs => ?_, fun st h' hl => ?_, fun hsh st h' hk => ?_⟩
  ·simp only [evOp, hop]
   unfold ac3
   rw [afO]
  ·have go : ∀ {y : Option Operand}, (∀ z, y = some z → z ∈ (Op.slice T x lo hi mx).operands.toList) → y.map st'.get = y.map st.get := fun {y} hy => by
    cases y with
    | none => rfl
    | some z => simp only [Option.map_some, hd z (hy z rfl)]
   simp only [hd x (by simp [Op.operands]), hhp]
   rw [go fun z e => by subst e; simp [Op.operands], go fun z e => by subst e; simp [Op.operands], go fun z e => by subst e; simp [Op.operands]]
  ·simp [gq] at hm
  ·simp [kK] at hl
  ·have hx := hl x (by simp [Op.operands])
   have eg : ∀ y : Option Operand, y.map (St.get ⟨st.slots, h'⟩) = y.map st.get := fun y => by cases y <;> simp [pW]
   simp only [pW, eg]
   refine ab6 fun id hid f _ => ?_
   rw [hx id hid]
  ·have eg : ∀ y : Option Operand, y.map (St.get ⟨st.slots, h'⟩) = y.map st.get := fun y => by cases y <;> simp [pW]
   simp only [pW, eg]
   exact ab6 fun j hj f hf => hk x (by simp [Op.operands]) j hj _ f hf
 case assign x =>
  refine ⟨fun st => some (st.get x), fun st k => by simp only [evOp, hop]; rfl, fun st st' hd hhp => ?_, fun hm st h => ?_, fun l hl st id b' hs => ?_, fun st h' hl => ?_, fun hsh => by simp [nZ] at hsh⟩
  simp only [hd x (by simp [Op.operands])]
  ·first
    | rfl
    | (simp [gq] at hm; done)
    | (simp [gq, *] at hm; done)
  ·simp [kK] at hl
  ·rfl
 case load t x =>
  refine ⟨fun st => match st.get x with
   | .ptr id r c => (look st.heap id).bind fun b => (fV E.P t).bind fun n => (aggT E.P t).bind fun ag => b.read r c n fun cs => bif ag then some (.agg cs) else Vq cs some
   | _ => none, fun st k => ?_, fun st st' hd hhp => ?_, fun hm st h => ?_, fun l hl st id b' hs => ?_, fun st h' hl => ?_, fun hsh => by simp [nZ] at hsh⟩
  ·simp only [evOp, hop]
   cases hx : st.get x with
   | ptr id r c =>
     simp only [Option.bind_assoc]
     refine iW fun b => iW fun n => iW fun ag => ?_
     rw [afD, afD (κ := fun cs => bif ag then some (.agg cs) else Vq cs some), Option.bind_assoc]
     refine iW fun cs => ?_
     rw [dX, aiJ]
     rfl
   | _ => rfl
  ·simp only [hd x (by simp [Op.operands]), hhp]
  ·simp [gq] at hm
  ·cases x with
   | tmp s =>
     obtain ⟨j, r, c, he, hne⟩ := hs s (qW.1 hl)
     show (match st.slots.getD s .undef with
      | .ptr id r c => _
      | _ => none) = (match st.slots.getD s .undef with
      | .ptr id r c => _
      | _ => none)
     rw [he]
     simp only
     rw [aaW hne]
   | _ => simp [kK] at hl
  ·have hx := hl x (by simp [Op.operands])
   simp only [pW]
   cases hg : st.get x with
   | ptr id r c =>
     rw [hg] at hx
     have he := hx id (by simp [AV.names])
     simp only [he]
   | _ => rfl
 case binOp op t x y t2 =>
  refine ⟨fun st => abU E.P E.eqs t op (st.get x) (st.get y) some, fun st k => ?_, fun st st' hd hhp => ?_, fun hm st h => ?_, fun l hl st id b' hs => ?_, fun st h' hl => ?_, fun hsh => by simp [nZ] at hsh⟩
  ·simp only [evOp, hop]
   rw [aiG]
  ·simp only [hd x (by simp [Op.operands]), hd y (by simp [Op.operands])]
  ·first
    | rfl
    | (simp [gq] at hm; done)
    | (simp [gq, *] at hm; done)
  ·simp [kK] at hl
  ·rfl
 case pick c x y =>
  refine ⟨fun st => match st.get c with
   | .bool t => bif t then some (st.get x) else some (st.get y)
   | _ => none, fun st k => ?_, fun st st' hd hhp => ?_, fun hm st h => ?_, fun l hl st id b' hs => ?_, fun st h' hl => ?_, fun hsh => by simp [nZ] at hsh⟩
  ·simp only [evOp, hop]
   cases st.get c with
   | bool t => cases t <;> rfl
   | _ => rfl
  ·simp only [hd c (by simp [Op.operands]), hd x (by simp [Op.operands]), hd y (by simp [Op.operands])]
  ·first
    | rfl
    | (simp [gq] at hm; done)
    | (simp [gq, *] at hm; done)
  ·simp [kK] at hl
  ·rfl
 case unOp op t x =>
  refine ⟨fun st => evUn op (st.get x) some, fun st k => ?_, fun st st' hd hhp => ?_, fun hm st h => ?_, fun l hl st id b' hs => ?_, fun st h' hl => ?_, fun hsh => by simp [nZ] at hsh⟩
  ·simp only [evOp, hop]
   unfold evUn
   split <;> rfl
  ·simp only [hd x (by simp [Op.operands])]
  ·first
    | rfl
    | (simp [gq] at hm; done)
    | (simp [gq, *] at hm; done)
  ·simp [kK] at hl
  ·rfl
 case convert s t x =>
  refine ⟨fun st => match E.P.underlying s, E.P.underlying t, st.get x with
   | some _, some (.int k), .int _ n => some (.int k (k.wrap n))
   | some _, some .string, .str s => some (.str s)
   | _, _, _ => none, fun st k => ?_, fun st st' hd hhp => ?_, fun hm st h => ?_, fun l hl st id b' hs => ?_, fun st h' hl => ?_, fun hsh => by simp [nZ] at hsh⟩
  ·simp only [evOp, hop]
   cases E.P.underlying s with
   | none => rfl
   | some sd =>
     cases E.P.underlying t with
     | none => rfl
     | some td => cases td <;> cases st.get x <;> rfl
  ·simp only [hd x (by simp [Op.operands])]
  ·first
    | rfl
    | (simp [gq] at hm; done)
    | (simp [gq, *] at hm; done)
  ·simp [kK] at hl
  ·rfl
 case fieldAddr s x f =>
  refine ⟨fun st => match E.P.underlying s, st.get x with
   | some (.struct fs), .ptr id r c => (fs[f]?).bind fun fd => (fV E.P fd.type).bind fun n => bif Nat.beq n 0 then none else (look st.heap id).bind fun b =>
     bif Nat.beq b.w 1 then some (.ptr id (pX r fd.offset 1) c) else some (.ptr id r (pX c fd.offset 1))
   | _, _ => none, fun st k => ?_, fun st st' hd hhp => ?_, fun hm st h => ?_, fun l hl st id b' hs => ?_, fun st h' hl => ?_, fun hsh st h' hk => ?_⟩
  ·simp only [evOp, hop]
   cases E.P.underlying s with
   | none => rfl
   | some td =>
     cases td with
     | struct fs =>
       cases hx : st.get x with
       | ptr id r c =>
         simp only [Option.bind_assoc]
         refine iW fun fd => iW fun n => ?_
         rw [dX]
         cases Nat.beq n 0 with
         | true => rfl
         | false =>
           simp only [cond_false, Option.bind_assoc]
           refine iW fun b => ?_
           rw [dX]
           rfl
       | _ => rfl
     | _ => rfl
  ·simp only [hd x (by simp [Op.operands]), hhp]
  ·first
    | rfl
    | (simp [gq] at hm; done)
    | (simp [gq, *] at hm; done)
  ·simp [kK] at hl
  ·have hx := hl x (by simp [Op.operands])
   simp only [pW]
   cases E.P.underlying s with
   | none => rfl
   | some td =>
     cases td with
     | struct fs =>
       cases hg : st.get x with
       | ptr id r c =>
         rw [hg] at hx
         have he := hx id (by simp [AV.names])
         simp only [he]
       | _ => rfl
     | _ => rfl
  ·have key := fun (j : Nat) (hj : (st.get x).names j = true) (β : Type) (f : Blk → Option β) hf => hk x (by simp [Op.operands]) j hj β f hf
   simp only [pW]
   cases E.P.underlying s with
   | none => rfl
   | some td =>
     cases td with
     | struct fs =>
       cases hg : st.get x with
       | ptr id r c =>
         simp only
         refine iW fun fd => iW fun n => ?_
         cases Nat.beq n 0 with
         | true => rfl
         | false =>
           simp only [cond_false]
           exact key _ (by rw [hg]; simp [AV.names]) _ _ fun c c' h1 h2 => by simp only [h1]
       | _ => rfl
     | _ => rfl
 case build t parts =>
  refine ⟨fun st => acZ E.P t (parts.toList.map fun (i, x) => (i, st.get x)), fun st k => by simp only [evOp, hop], fun st st' hd hhp => ?_, fun hm st h => rfl, fun l hl st id b' hs => ?_, fun st h' hl => rfl, fun hsh => by simp [nZ] at hsh⟩
  ·have : (parts.toList.map fun (i, x) => (i, st'.get x)) = parts.toList.map fun (i, x) => (i, st.get x) := by
    refine List.map_congr_left fun p hp => ?_
    have : st'.get p.2 = st.get p.2 := hd _ (by
     simp only [Op.operands]
     exact List.mem_map.2 ⟨p, hp, rfl⟩)
    simp only [this]
   simp only [this]
  ·simp [kK] at hl
 case field t x f =>
  refine ⟨fun st => match E.P.underlying t, st.get x with
   | some (.struct fs), .agg l => (fs[f]?).bind fun fd => (fV E.P fd.type).bind fun n => (aggT E.P fd.type).bind fun ag =>
     bif ag then some (.agg ((l.drop fd.offset).take n)) else l[fd.offset]?
   | _, _ => none, fun st k => ?_, fun st st' hd hhp => ?_, fun hm st h => ?_, fun l hl st id b' hs => ?_, fun st h' hl => ?_, fun hsh => by simp [nZ] at hsh⟩
  ·simp only [evOp, hop]
   cases E.P.underlying t with
   | none => rfl
   | some td =>
     cases td with
     | struct fs =>
       cases hx : st.get x with
       | agg l =>
         simp only [Option.bind_assoc]
         refine iW fun fd => iW fun n => iW fun ag => ?_
         rw [dX]
         rfl
       | _ => rfl
     | _ => rfl
  ·simp only [hd x (by simp [Op.operands])]
  ·first
    | rfl
    | (simp [gq] at hm; done)
    | (simp [gq, *] at hm; done)
  ·simp [kK] at hl
  ·rfl
 case extract x i =>
  refine ⟨fun st => match st.get x with
   | .tup l => l[i]?
   | _ => none, fun st k => ?_, fun st st' hd hhp => ?_, fun hm st h => ?_, fun l hl st id b' hs => ?_, fun st h' hl => ?_, fun hsh => by simp [nZ] at hsh⟩
  ·simp only [evOp, hop]
   cases hx : st.get x <;> rfl
  ·simp only [hd x (by simp [Op.operands])]
  ·first
    | rfl
    | (simp [gq] at hm; done)
    | (simp [gq, *] at hm; done)
  ·simp [kK] at hl
  ·rfl
 case indexAddr t x i =>
  refine ⟨fun st => match E.P.underlying t, st.get x, st.get i with
   | some (.array len e), .ptr id r c, .int _ n => (fV E.P e).bind fun s => (look st.heap id).bind fun b =>
     bif decide (0 ≤ n) && decide (n < (len : Int)) then bif Nat.beq b.w 1 then some (.ptr id (pX r n.toNat s) c) else some (.ptr id r (pX c n.toNat s))
     else none
   | some (.slice e), .sl id, .int _ n => (fV E.P e).bind fun s => (look st.heap id).bind fun b =>
     bif Nat.beq s b.w then bif decide (0 ≤ n) && decide (n < (b.n : Int)) then some (.ptr id n.toNat 0) else none else none
   | some (.slice e), .sub id lo m, .int _ n => (fV E.P e).bind fun s => (look st.heap id).bind fun b =>
     bif Nat.beq s b.w then bif decide (0 ≤ n) && decide (n < (m : Int)) then some (.ptr id (pX lo n.toNat 1) 0) else none else none
   | _, _, _ => none, fun st k => ?_, fun st st' hd hhp => ?_, fun hm st h => ?_, fun l hl st id b' hs => ?_, fun st h' hl => ?_, fun hsh st h' hk => ?_⟩
  ·simp only [evOp, hop]
   split
   ·rename_i h1 h2 h3
    simp only [h1, h2, h3, Option.bind_assoc]
    refine iW fun s => iW fun b => ?_
    simp only [dX, Option.bind_some, Option.bind_none]
   ·rename_i h1 h2 h3
    simp only [h1, h2, h3, Option.bind_assoc]
    refine iW fun s => iW fun b => ?_
    simp only [dX, Option.bind_some, Option.bind_none]
   ·rename_i h1 h2 h3
    simp only [h1, h2, h3, Option.bind_assoc]
    refine iW fun s => iW fun b => ?_
    simp only [dX, Option.bind_some, Option.bind_none]
   ·rename_i h1 h2 h3
    split
    ·rename_i e1 e2 e3; exact absurd e3 (h1 _ _ _ _ _ _ _ e1 e2)
    ·rename_i e1 e2 e3; exact absurd e3 (h2 _ _ _ _ e1 e2)
    ·rename_i e1 e2 e3; exact absurd e3 (h3 _ _ _ _ _ _ e1 e2)
    ·rfl
  ·simp only [hd x (by simp [Op.operands]), hd i (by simp [Op.operands]), hhp]
  ·first
    | rfl
    | (simp [gq] at hm; done)
    | (simp [gq, *] at hm; done)
  ·simp [kK] at hl
  ·have hx := hl x (by simp [Op.operands])
   simp only [pW]
   cases E.P.underlying t with
   | none => rfl
   | some td =>
     cases td with
     | array len e =>
       cases hg : st.get x with
       | ptr id r c =>
         rw [hg] at hx
         have he := hx id (by simp [AV.names])
         cases st.get i <;> simp only [he]
       | _ => rfl
     | slice e =>
       cases hg : st.get x with
       | sl id =>
         rw [hg] at hx
         have he := hx id (by simp [AV.names])
         cases st.get i <;> simp only [he]
       | sub id lo m =>
         rw [hg] at hx
         have he := hx id (by simp [AV.names])
         cases st.get i <;> simp only [he]
       | _ => rfl
     | _ => rfl
  ·have key := fun (j : Nat) (hj : (st.get x).names j = true) (β : Type) (f : Blk → Option β) hf => hk x (by simp [Op.operands]) j hj β f hf
   simp only [pW]
   cases E.P.underlying t with
   | none => rfl
   | some td =>
     cases td with
     | array len e =>
       cases hg : st.get x with
       | ptr id r c =>
         cases st.get i with
         | int ka n =>
           simp only
           refine iW fun s => ?_
           exact key _ (by rw [hg]; simp [AV.names]) _ _ fun c c' h1 h2 => by simp only [h1]
         | _ => rfl
       | _ => rfl
     | slice e =>
       cases hg : st.get x with
       | sl id =>
         cases st.get i with
         | int ka n =>
           simp only
           refine iW fun s => ?_
           exact key _ (by rw [hg]; simp [AV.names]) _ _ fun c c' h1 h2 => by simp only [h1, h2]
         | _ => rfl
       | sub id lo m =>
         cases st.get i with
         | int ka n =>
           simp only
           refine iW fun s => ?_
           exact key _ (by rw [hg]; simp [AV.names]) _ _ fun c c' h1 h2 => by simp only [h1]
         | _ => rfl
       | _ => rfl
     | _ => rfl
 case index t x i =>
  refine ⟨fun st => match E.P.underlying t, st.get x, st.get i with
   | some .string, .str s, .int _ n => bif decide (0 ≤ n) then (s.data.toList[n.toNat]?).bind fun c => some (.int .u8 c.toNat) else none
   | some (.array len e), .agg l, .int _ n => (fV E.P e).bind fun s => (aggT E.P e).bind fun ag =>
     bif decide (0 ≤ n) && decide (n < (len : Int)) then bif ag then some (.agg ((l.drop (pX 0 n.toNat s)).take s)) else l[pX 0 n.toNat s]?
     else none
   | _, _, _ => none, fun st k => ?_, fun st st' hd hhp => ?_, fun hm st h => ?_, fun l hl st id b' hs => ?_, fun st h' hl => ?_, fun hsh => by simp [nZ] at hsh⟩
  ·simp only [evOp, hop]
   split
   ·rename_i h1 h2 h3
    simp only [h1, h2, h3, dX, Option.bind_assoc, Option.bind_some, Option.bind_none]
   ·rename_i h1 h2 h3
    simp only [h1, h2, h3, Option.bind_assoc]
    refine iW fun s => iW fun b => ?_
    simp only [dX, Option.bind_some, Option.bind_none]
   ·rename_i h1 h2
    split
    ·rename_i e1 e2 e3; exact absurd e3 (h1 _ _ _ e1 e2)
    ·rename_i e1 e2 e3; exact absurd e3 (h2 _ _ _ _ _ e1 e2)
    ·rfl
  ·simp only [hd x (by simp [Op.operands]), hd i (by simp [Op.operands])]
  ·first
    | rfl
    | (simp [gq] at hm; done)
    | (simp [gq, *] at hm; done)
  ·simp [kK] at hl
  ·rfl
 case call c =>
  split at h
  ·rename_i hcal
   refine ⟨fun st => match c.args.toList.map st.get, c.argTypes.toList with
    | [x], [t] => match E.P.underlying t, x with
      | some (.slice _), .str _ => none
      | some .string, .str s => some (.int .i64 s.size)
      | some (.slice _), x => (FV st.heap x).bind fun n => some (.int .i64 n)
      | _, _ => none
    | _, _ => none, fun st k => ?_, fun st st' hd hhp => ?_, fun hm st h => ?_, fun l hl st id b' hs => ?_, fun st h' hl => ?_, fun hsh st h' hk => ?_⟩
   ·simp only [evOp, hop, hcal, Jz]
    generalize c.args.toList.map st.get = xs
    match xs with
    | [] => rfl
    | _ :: _ :: _ => rfl
    | [x] =>
      generalize c.argTypes.toList = ts
      match ts with
      | [] => rfl
      | _ :: _ :: _ => rfl
      | [t] =>
        simp only
        cases E.P.underlying t with
        | none => rfl
        | some td => cases td <;> cases x <;> simp only [Option.bind_assoc] <;> rfl
   ·have hmap : c.args.toList.map st'.get = c.args.toList.map st.get := by
     refine List.map_congr_left fun x hx => hd x ?_
     simp [Op.operands, Call.operands, hcal]
     simpa using hx
    simp only [hmap, hhp]
   ·first
     | rfl
     | (simp [gq] at hm; done)
     | (simp [gq, *] at hm; done)
   ·simp [kK] at hl
   ·have hmap : c.args.toList.map (St.get ⟨st.slots, h'⟩) = c.args.toList.map st.get := List.map_congr_left fun x _ => pW
    simp only [hmap]
    have hn' : ∀ x ∈ c.args.toList.map st.get, ∀ id, x.names id = true → look h' id = look st.heap id := fun x hx => by
     obtain ⟨z, hz, rfl⟩ := List.mem_map.1 hx
     exact hl z (by simp [Op.operands, Call.operands, hcal]; simpa using hz)
    generalize c.args.toList.map st.get = xs at hn' ⊢
    match xs, hn' with
    | [], _ => rfl
    | _ :: _ :: _, _ => rfl
    | [x], hn' =>
      generalize c.argTypes.toList = ts
      match ts with
      | [] => rfl
      | _ :: _ :: _ => rfl
      | [t] =>
        have hx := hn' x (by simp)
        have hlen : FV h' x = FV st.heap x := by
         cases x with
         | sl id => simp only [FV, hx id (by simp [AV.names])]
         | _ => rfl
        simp only
        cases E.P.underlying t with
        | none => cases x <;> rfl
        | some td => cases td <;> cases x <;> first | rfl | simp only [hlen]
   ·have hmap : c.args.toList.map (St.get ⟨st.slots, h'⟩) = c.args.toList.map st.get := List.map_congr_left fun x _ => pW
    simp only [hmap]
    have hn' : ∀ x ∈ c.args.toList.map st.get, ∀ j, x.names j = true → ∀ (β : Type) (f : Blk → Option β), (∀ c c' : Blk, c.w = c'.w → c.n = c'.n → f c = f c') → (look h' j).bind f = (look st.heap j).bind f := fun x hx => by
     obtain ⟨z, hz, rfl⟩ := List.mem_map.1 hx
     exact hk z (by simp [Op.operands, Call.operands, hcal]; simpa using hz)
    generalize c.args.toList.map st.get = xs at hn' ⊢
    match xs, hn' with
    | [], _ => rfl
    | _ :: _ :: _, _ => rfl
    | [x], hn' =>
      generalize c.argTypes.toList = ts
      match ts with
      | [] => rfl
      | _ :: _ :: _ => rfl
      | [t] =>
        have hlen : FV h' x = FV st.heap x := by
         cases x with
         | sl j =>
           have := hn' (.sl j) (by simp) j (by simp [AV.names]) _ (fun c => some c.n) (fun c c' _ h2 => by simp only [h2])
           simpa only [FV, Option.map_eq_bind, Function.comp_def] using this
         | _ => rfl
        simp only
        cases E.P.underlying t with
        | none => cases x <;> rfl
        | some td => cases td <;> cases x <;> first | rfl | simp only [hlen]
  ·rename_i hcal
   refine ⟨fun st => match c.args.toList.map st.get with
    | .int ka x :: r => EQ max ka x r some
    | _ => none, fun st k => ?_, fun st st' hd hhp => ?_, fun hm st h => ?_, fun l hl st id b' hs => ?_, fun st h' hl => ?_, fun hsh => by simp [nZ, hcal] at hsh⟩
   ·simp only [evOp, hop, hcal, Jz]
    generalize c.args.toList.map st.get = xs
    match xs with
    | [] => rfl
    | x :: r =>
      cases x with
      | int ka x => simp only; exact aaX
      | _ => rfl
   ·have hmap : c.args.toList.map st'.get = c.args.toList.map st.get := by
     refine List.map_congr_left fun x hx => hd x ?_
     simp [Op.operands, Call.operands, hcal]
     simpa using hx
    simp only [hmap]
   ·first
     | rfl
     | (simp [gq] at hm; done)
     | (simp [gq, *] at hm; done)
   ·simp [kK] at hl
   ·rfl
  ·rename_i hcal
   refine ⟨fun st => match c.args.toList.map st.get with
    | .int ka x :: r => EQ min ka x r some
    | _ => none, fun st k => ?_, fun st st' hd hhp => ?_, fun hm st h => ?_, fun l hl st id b' hs => ?_, fun st h' hl => ?_, fun hsh => by simp [nZ, hcal] at hsh⟩
   ·simp only [evOp, hop, hcal, Jz]
    generalize c.args.toList.map st.get = xs
    match xs with
    | [] => rfl
    | x :: r =>
      cases x with
      | int ka x => simp only; exact aaX
      | _ => rfl
   ·have hmap : c.args.toList.map st'.get = c.args.toList.map st.get := by
     refine List.map_congr_left fun x hx => hd x ?_
     simp [Op.operands, Call.operands, hcal]
     simpa using hx
    simp only [hmap]
   ·first
     | rfl
     | (simp [gq] at hm; done)
     | (simp [gq, *] at hm; done)
   ·simp [kK] at hl
   ·rfl
  ·cases h
theorem af6 {d e : Nat} {x y : AV} (h : d ≠ e) : (st.put (some d) x).put (some e) y = (st.put (some e) y).put (some d) x := by
 simp only [St.put]
 rw [List.set_comm _ _ h]
theorem mJ {d : Nat} : ∀ {l : List AV}, AV.atAll d l = false ↔ ∀ x ∈ l, x.at d = false
 | [] => by simp [AV.atAll]
 | x :: l => by simp [AV.atAll, mJ (l := l)]
theorem tV {d : Nat} : ∀ {h : Heap}, ZK d h = false ↔ ∀ p ∈ h, p.1 / 64 ≠ d ∧ p.2.at d = false
 | [] => by simp [ZK]
 | (j, b) :: h => by
   simp only [ZK, Bool.or_eq_false_iff, tV (h := h), List.mem_cons, forall_eq_or_imp]
   constructor
   ·rintro ⟨h1, h2, h3⟩
    exact ⟨⟨iQ h1, h2⟩, h3⟩
   ·rintro ⟨⟨h1, h2⟩, h3⟩
    refine ⟨?_, h2, h3⟩
    cases hb : Nat.beq (j / 64) d with
    | false => rfl
    | true => exact absurd (aJ hb) h1
theorem EW {id : Nat} {b : Blk} : ∀ {h : Heap}, look h id = some b → (id, b) ∈ h
 | [], h => by simp [look] at h
 | (j, c) :: r, h => by
   simp only [look] at h
   cases hb : Nat.beq j id with
   | true =>
     rw [hb, cond_true] at h
     have := aJ hb
     subst this
     have := Option.some.inj h
     subst this
     simp
   | false =>
     rw [hb, cond_false] at h
     exact List.mem_cons_of_mem _ (EW h)
def lJ (d : Nat) (st : St) : Prop := AV.atAll d st.slots = false ∧ ZK d st.heap = false
theorem adm (v : Value) (d : Nat) : (rV v).at d = false := by
 unfold rV
 cases v with
 | slice a l c =>
   cases a with
   | some _ => rfl
   | none => simp only; cases (Nat.beq l 0 && Nat.beq c 0) <;> rfl
 | pointer a => cases a <;> rfl
 | func fn first caps =>
   simp only
   repeat' split
   all_goals rfl
 | _ => rfl
theorem ad5 (v : Value) (d : Nat) : (pK v).at d = false := by
 unfold pK
 split
 ·simp only [AV.at]
  rw [mJ]
  intro x hx
  obtain ⟨c, _, rfl⟩ := List.mem_map.1 hx
  exact adm c d
 ·exact adm _ d
theorem lJ.get {d : Nat} (h : lJ d st) (x : Operand) : (st.get x).at d = false := by
 cases x with
 | tmp t =>
   simp only [St.get, List.getD_eq_getElem?_getD]
   cases ht : st.slots[t]? with
   | none => rfl
   | some v => exact mJ.1 h.1 v (List.mem_of_getElem? ht)
 | const v => exact ad5 v d
 | func f => rfl
 | global g => rfl
theorem lJ.blk {d id : Nat} {b : Blk} (h : lJ d st) (hb : look st.heap id = some b) : id / 64 ≠ d ∧ b.at d = false := tV.1 h.2 _ (EW hb)
theorem lJ.gone {d id : Nat} (h : lJ d st) (hd : id / 64 = d) : look st.heap id = none := by
 cases hl : look st.heap id with
 | none => rfl
 | some b => exact absurd hd (h.blk hl).1
theorem acv (d : Nat) (v : AV) : aa9 d v = .undef ∨ (aa9 d v = v ∧ v.at d = false) := by
 unfold aa9
 cases h : v.at d with
 | true => exact .inl rfl
 | false => exact .inr ⟨rfl, rfl⟩
theorem afE (d e : Nat) (v : AV) (h : d = e ∨ v.at e = false) : (aa9 d v).at e = false := by
 rcases acv d v with h1 | ⟨h1, h2⟩
 ·rw [h1]; rfl
 ·rw [h1]
  rcases h with rfl | h
  ·exact h2
  ·exact h
theorem Qw {d : Nat} : ∀ {h : Heap} {p : Nat × Blk}, p ∈ Ew d h → p.1 / 64 ≠ d ∧ ∃ b, (p.1, b) ∈ h ∧ p.2 = uK d b
 | [], p, h => by simp [Ew] at h
 | (j, b) :: h, p, hp => by
   simp only [Ew] at hp
   cases hb : Nat.beq (j / 64) d with
   | true =>
     rw [hb, cond_true] at hp
     obtain ⟨h1, c, h2, h3⟩ := Qw hp
     exact ⟨h1, c, List.mem_cons_of_mem _ h2, h3⟩
   | false =>
     rw [hb, cond_false] at hp
     rcases List.mem_cons.1 hp with rfl | hp
     ·exact ⟨iQ hb, b, by simp, rfl⟩
     ·obtain ⟨h1, c, h2, h3⟩ := Qw hp
      exact ⟨h1, c, List.mem_cons_of_mem _ h2, h3⟩
theorem adY (d e : Nat) (b : Blk) (h : d = e ∨ b.at e = false) : (uK d b).at e = false := by
 cases b with
 | map => first | rfl | (cases h; done) | (simp at h; done) | (simp at *; done)
 | bld => first | rfl | (cases h; done) | (simp at h; done) | (simp at *; done)
 | rows => rfl
 | mix m ty l =>
   simp only [uK, Blk.at]
   rw [mJ]
   intro x hx
   obtain ⟨v, hv, rfl⟩ := List.mem_map.1 hx
   refine afE d e v ?_
   rcases h with h | h
   ·exact .inl h
   ·exact .inr (mJ.1 h v hv)
theorem aek (st : St) (d e : Nat) (h : d = e ∨ lJ e st) : lJ e (st.drop d) := by
 constructor
 ·rw [mJ]
  intro x hx
  obtain ⟨v, hv, rfl⟩ := List.mem_map.1 hx
  refine afE d e v ?_
  rcases h with h | h
  ·exact .inl h
  ·exact .inr (mJ.1 h.1 v hv)
 ·rw [tV]
  intro p hp
  obtain ⟨h1, b, hb, h3⟩ := Qw hp
  rcases h with rfl | h
  ·exact ⟨h1, by rw [h3]; exact adY d d b (.inl rfl)⟩
  ·have := tV.1 h.2 _ hb
   exact ⟨this.1, by rw [h3]; exact adY d e b (.inr this.2)⟩
theorem ab8 : ∀ (ds : List Nat) (st : St) (e : Nat), (e ∈ ds ∨ lJ e st) → lJ e (dropAll ds st)
 | [], st, e, h => by
   rcases h with h | h
   ·simp at h
   ·exact h
 | d :: ds, st, e, h => by
   refine ab8 ds (st.drop d) e ?_
   rcases h with h | h
   ·rcases List.mem_cons.1 h with h | h
    ·exact .inr (aek st d e (.inl h.symm))
    ·exact .inl h
   ·exact .inr (aek st d e (.inr h))
theorem xQ {d id : Nat} {b' : Blk} : ∀ {h : Heap}, look (Ew d h) id = some b' → ∃ b, look h id = some b ∧ b' = uK d b
 | [], h => by simp [Ew, look] at h
 | (j, b) :: r, h => by
   simp only [Ew] at h
   cases hb : Nat.beq (j / 64) d with
   | true =>
     rw [hb, cond_true] at h
     obtain ⟨c, h1, h2⟩ := xQ h
     have hne : Nat.beq j id = false := by
      cases hx : Nat.beq j id with
      | false => rfl
      | true =>
        exfalso
        have := aJ hx
        subst this
        have := Qw (EW h)
        exact this.1 (aJ hb)
     exact ⟨c, by simp [look, hne, h1], h2⟩
   | false =>
     rw [hb, cond_false] at h
     simp only [look] at h ⊢
     cases hx : Nat.beq j id with
     | true =>
       rw [hx, cond_true] at h
       exact ⟨b, rfl, (Option.some.inj h).symm⟩
     | false =>
       rw [hx, cond_false] at h
       exact xQ h
theorem afU (d : Nat) (b : Blk) : (uK d b).mode = b.mode ∧ (uK d b).e = b.e ∧ (uK d b).w = b.w ∧ (uK d b).n = b.n ∧ (uK d b).flat.length = b.flat.length ∧ ∀ (i : Nat) (av : AV), (uK d b).flat[i]? = some av → av = .undef ∨ b.flat[i]? = some av := by
 cases b with
 | map => exact ⟨rfl, rfl, rfl, rfl, rfl, fun i av h => .inr h⟩
 | bld => exact ⟨rfl, rfl, rfl, rfl, rfl, fun i av h => .inr h⟩
 | rows m e t l => exact ⟨rfl, rfl, rfl, rfl, rfl, fun i av h => .inr h⟩
 | mix m e l =>
   refine ⟨rfl, rfl, rfl, by simp [uK, Blk.n], by simp [uK, Blk.flat], fun i av h => ?_⟩
   simp only [uK, Blk.flat, List.getElem?_map, Option.map_eq_some_iff] at h ⊢
   obtain ⟨v, hv, rfl⟩ := h
   rcases acv d v with h1 | ⟨h1, _⟩
   ·exact .inl h1
   ·exact .inr (by rw [h1]; exact hv)
section
variable [Inhabited aQ]
theorem RelL.drop (h : RelL F L st a w) (d : Nat) : RelL F L (st.drop d) a w := by
 refine { h with len := by simp [St.drop, h.len], slots := fun i av hi => ?_, heap := fun id b' hb' => ?_, inj := fun i j b c l m hi hj => ?_, maps := h.maps.tr _root_.id (fun j b hj hm => ?_) (fun _ _ _ _ _ _ _ _ h => h) (fun _ _ _ _ h => h) (fun _ _ _ => rfl) (fun x _ hx => .inl (by
  obtain ⟨j, c, m, hj, hm, hr⟩ := hx
  obtain ⟨b0, hb0, _⟩ := xQ hj
  exact ⟨j, b0, m, hb0, hm, hr⟩)) }
 ·simp only [St.drop, List.getElem?_map, Option.map_eq_some_iff] at hi
  obtain ⟨v, hv, rfl⟩ := hi
  rcases acv d v with h1 | ⟨h1, _⟩
  ·rw [h1]; simp [V]
  ·rw [h1]; exact h.slots i v hv
 ·obtain ⟨b, hb, rfl⟩ := xQ hb'
  obtain ⟨l, hl, hbl⟩ := h.heap id b hb
  obtain ⟨f1, f2, f3, f4, f5, f6⟩ := afU d b
  have hfe : (uK d b).flat = [] ↔ b.flat = [] := by rw [← List.length_eq_zero_iff, f5, List.length_eq_zero_iff]
  refine ⟨l, hl, ⟨by rw [f3]; exact hbl.hw, by rw [f4]; exact hbl.hn, by rw [f1]; exact hbl.hm, by rw [f1]; exact hbl.le, fun hbk i av hi => ?_, fun hbk hm hne => ?_, fun hbk hm => ?_, fun hbk hm => ?_, fun hbk hm => ?_, fun hbk => ?_⟩⟩
  ·rcases f6 i av hi with rfl | hi2
   ·have hlt : i < b.flat.length := by rw [← f5]; exact (List.getElem?_eq_some_iff.1 hi).1
    obtain ⟨v, hv1, _, hv3⟩ := hbl.cells hbk i _ (List.getElem?_eq_getElem hlt)
    exact ⟨v, hv1, by simp [V], hv3⟩
   ·exact hbl.cells hbk i av hi2
  ·exact hbl.ro hbk (by rw [← f1]; exact hm) (fun e => hne (hfe.2 e))
  ·rw [f2, f5]
   exact hbl.own hbk (by rw [← f1]; exact hm)
  ·exact hbl.m1 hbk (by rw [← f1]; exact hm)
  ·exact hbl.m2 hbk (by rw [← f1]; exact hm)
  ·exact hfe.2 (hbl.nb hbk)
 ·obtain ⟨b0, hb0, _⟩ := xQ hi
  obtain ⟨c0, hc0, _⟩ := xQ hj
  exact h.inj i j b0 c0 l m hb0 hc0
 ·obtain ⟨b0, hb0, e⟩ := xQ hj
  cases b0 with
  | map => rw [e]; exact ⟨hb0, rfl⟩
  | bld => rw [e]; exact ⟨hb0, rfl⟩
  | _ => rw [e] at hm; cases hm
theorem Rel.dropAll : ∀ (ds : List Nat) {st : St} {a : Act} {w : World}, Rel F st a w → Rel F (dropAll ds st) a w
 | [], _, _, _, h => h
 | d :: ds, _, _, _, ⟨L, h⟩ => Rel.dropAll ds ⟨L, h.drop d⟩
end
theorem Ik {j id : Nat} {b : Blk} (h : j ≠ id) : ∀ {hp : Heap}, look (insH id b hp) j = look hp j
 | [] => by
   have : Nat.beq id j = false := by
    cases hb : Nat.beq id j with
    | false => rfl
    | true => exact absurd (aJ hb).symm h
   simp [insH, look, this]
 | (i, c) :: r => by
   have hf : Nat.beq id j = false := by
    cases hb : Nat.beq id j with
    | false => rfl
    | true => exact absurd (aJ hb).symm h
   simp only [insH]
   cases Nat.ble i id with
   | true =>
     simp only [cond_true, look]
     rw [Ik h]
   | false => simp [look, hf]
theorem abl {id : Nat} {b : Blk} : ∀ {hp : Heap}, look hp id = none → look (insH id b hp) id = some b
 | [], _ => by simp [insH, look]
 | (i, c) :: r, h => by
   simp only [look] at h
   cases hb : Nat.beq i id with
   | true => rw [hb, cond_true] at h; cases h
   | false =>
     rw [hb, cond_false] at h
     simp only [insH]
     cases Nat.ble i id with
     | true => simp only [cond_true, look, hb, cond_false]; exact abl h
     | false => simp [look]
theorem Dv {j : Nat} : ∀ {bs : List (Nat × Blk)} {hp : Heap}, (∀ p ∈ bs, p.1 ≠ j) → look (jW bs hp) j = look hp j
 | [], _, _ => rfl
 | (id, b) :: r, hp, h => by
   simp only [jW]
   rw [Dv fun p hp => h p (List.mem_cons_of_mem _ hp), Ik (fun e => h (id, b) (by simp) e.symm)]
theorem ag3 (h r : Heap) (j : Nat) : look (h ++ r) j = match look h j with
 | some b => some b
 | none => look r j := by
 induction h with
 | nil => rfl
 | cons p h ih =>
   obtain ⟨i, c⟩ := p
   simp only [List.cons_append, look]
   cases Nat.beq i j with
   | true => rfl
   | false => simp only [cond_false]; exact ih
def qy : List (Nat × Blk) → Heap → Prop
 | [], _ => True
 | (id, _) :: r, h => look h id = none ∧ (∀ p ∈ r, p.1 ≠ id) ∧ qy r h
theorem ade : ∀ {bs : List (Nat × Blk)} {hp : Heap}, qy bs hp → ∀ j, look (jW bs hp) j = look (hp ++ bs) j
 | [], hp, _, j => by simp [jW]
 | (id, b) :: r, hp, h, j => by
   obtain ⟨h1, h2, h3⟩ := h
   simp only [jW]
   have hr : qy r (insH id b hp) := by
    have : ∀ {r : List (Nat × Blk)}, (∀ p ∈ r, p.1 ≠ id) → qy r hp → qy r (insH id b hp) := by
     intro r
     induction r with
     | nil => intro _ _; trivial
     | cons p r ih =>
       intro g1 g2
       obtain ⟨g3, g4, g5⟩ := g2
       exact ⟨by rw [Ik (g1 p (by simp))]; exact g3, g4, ih (fun q hq => g1 q (List.mem_cons_of_mem _ hq)) g5⟩
    exact this h2 h3
   rw [ade hr, ag3, ag3]
   by_cases e : j = id
   ·subst e
    rw [abl h1, h1]
    simp [look]
   ·rw [Ik e]
    have hb : Nat.beq id j = false := by
     cases hb : Nat.beq id j with
     | false => rfl
     | true => exact absurd (aJ hb).symm e
    cases look hp j with
    | some _ => rfl
    | none => simp [look, hb]
theorem afx {a b : Nat} {x y : Blk} (h : a ≠ b) : ∀ (hp : Heap), insH a x (insH b y hp) = insH b y (insH a x hp)
 | [] => by
   simp only [insH]
   rcases Nat.lt_or_gt_of_ne h with h1 | h1
   ·have e1 : Nat.ble b a = false := by
     cases hb : Nat.ble b a with
     | false => rfl
     | true => have := Nat.le_of_ble_eq_true hb; omega
    have e2 : Nat.ble a b = true := Nat.ble_eq_true_of_le (by omega)
    simp [e1, e2]
   ·have e1 : Nat.ble a b = false := by
     cases hb : Nat.ble a b with
     | false => rfl
     | true => have := Nat.le_of_ble_eq_true hb; omega
    have e2 : Nat.ble b a = true := Nat.ble_eq_true_of_le (by omega)
    simp [e1, e2]
 | (i, c) :: r => by
   have ble_t : ∀ {m n : Nat}, m ≤ n → Nat.ble m n = true := fun h => Nat.ble_eq_true_of_le h
   have ble_f : ∀ {m n : Nat}, n < m → Nat.ble m n = false := fun {m n} h => by
    cases hb : Nat.ble m n with
    | false => rfl
    | true => have := Nat.le_of_ble_eq_true hb; omega
   rcases Nat.lt_or_ge a i with ha | ha <;> rcases Nat.lt_or_ge b i with hb | hb
   ·
     rcases Nat.lt_or_gt_of_ne h with h1 | h1
     ·simp [insH, ble_f ha, ble_f hb, ble_f h1, ble_t (Nat.le_of_lt h1)]
     ·simp [insH, ble_f ha, ble_f hb, ble_f h1, ble_t (Nat.le_of_lt h1)]
   ·simp [insH, ble_f ha, ble_t hb, ble_t (show a ≤ b by omega)]
   ·simp [insH, ble_t ha, ble_f hb, ble_t (show b ≤ a by omega)]
   ·simp only [insH, ble_t ha, ble_t hb, cond_true]
    rw [afx h r]
theorem adc {a : Nat} {x : Blk} : ∀ {bs : List (Nat × Blk)} {hp : Heap}, (∀ p ∈ bs, p.1 ≠ a) → jW bs (insH a x hp) = insH a x (jW bs hp)
 | [], _, _ => rfl
 | (b, y) :: r, hp, h => by
   simp only [jW]
   rw [afx (h (b, y) (by simp)), adc fun p hp => h p (List.mem_cons_of_mem _ hp)]
theorem adt : ∀ {as bs : List (Nat × Blk)} {hp : Heap}, (∀ p ∈ as, ∀ q ∈ bs, p.1 ≠ q.1) → jW bs (jW as hp) = jW as (jW bs hp)
 | [], _, _, _ => rfl
 | (a, x) :: as, bs, hp, h => by
   simp only [jW]
   rw [adt (fun p hp q hq => h p (List.mem_cons_of_mem _ hp) q hq), adc (fun p hp e => h (a, x) (by simp) p hp e.symm)]
theorem agX {id a : Nat} {x b' : Blk} (hne : id ≠ a) : ∀ {hp : Heap}, look hp id ≠ none → upd (insH a x hp) id b' = insH a x (upd hp id b')
 | [], h => by simp [look] at h
 | (i, c) :: r, h => by
   have hfa : Nat.beq a id = false := by
    cases hb : Nat.beq a id with
    | false => rfl
    | true => exact absurd (aJ hb).symm hne
   simp only [look] at h
   cases hb : Nat.beq i id with
   | true =>
     have := aJ hb
     subst this
     simp only [insH]
     cases hx : Nat.ble i a with
     | true => simp [upd, insH, hx]
     | false => simp [upd, insH, hx, hfa]
   | false =>
     rw [hb, cond_false] at h
     simp only [insH]
     cases hx : Nat.ble i a with
     | true =>
       simp only [cond_true, upd, hb, cond_false, insH, hx]
       rw [agX hne h]
     | false => simp [upd, hfa, hb, insH, hx]
theorem aeM {id a : Nat} {x : Blk} {hp : Heap} (h : look hp id ≠ none) (hne : id ≠ a) : look (insH a x hp) id ≠ none := by
 rw [Ik hne]
 exact h
theorem abx {id : Nat} {b' : Blk} : ∀ {bs : List (Nat × Blk)} {hp : Heap}, (∀ p ∈ bs, id ≠ p.1) → look hp id ≠ none → upd (jW bs hp) id b' = jW bs (upd hp id b')
 | [], _, _, _ => rfl
 | (a, x) :: r, hp, h, hl => by
   simp only [jW]
   rw [abx (fun p hp => h p (List.mem_cons_of_mem _ hp)) (aeM hl (h (a, x) (by simp))), agX (h (a, x) (by simp)) hl]
section
variable [Inhabited aQ]
theorem RelL.looks (h : RelL F L st a w) {h' : Heap} (he : ∀ j, Go.Ev.look h' j = Go.Ev.look st.heap j) : RelL F L ⟨st.slots, h'⟩ a w :=
 { h with
   heap := fun id b hb => h.heap id b (by rw [← he]; exact hb)
   inj := fun i j b c l m hi hj => h.inj i j b c l m (by rw [← he]; exact hi) (by rw [← he]; exact hj)
   maps := h.maps.tr _root_.id (fun j b hj _ => ⟨by rw [← he]; exact hj, rfl⟩) (fun _ _ _ _ _ _ _ _ h => h) (fun _ _ _ _ h => h) (fun _ _ _ => rfl) (fun x _ hx => .inl (by
    obtain ⟨j, c, m, hj, hm, hr⟩ := hx
    exact ⟨j, c, m, by rw [← he]; exact hj, hm, hr⟩)) }
end
theorem Iw {v : AV} : ∀ {ns : List Nat}, BV ns v = true ↔ ∀ d ∈ ns, v.at d = false
 | [] => by simp [BV]
 | d :: ns => by simp [BV, Iw (ns := ns)]
theorem YX {ns : List Nat} : ∀ {bs : List (Nat × Blk)}, JJ ns bs = true ↔ ∀ p ∈ bs, ∀ d ∈ ns, p.2.at d = false
 | [] => by simp [JJ]
 | (i, b) :: bs => by
   simp only [JJ, Bool.and_eq_true, YX (bs := bs), List.mem_cons, forall_eq_or_imp]
   refine and_congr_left fun _ => ?_
   cases b with
   | map => simp [Blk.at]
   | bld => simp [Blk.at]
   | rows m e t l => simp [Blk.at]
   | mix m e l => rw [Iw]; simp [AV.at, Blk.at]
theorem EJ {d : Nat} {x : AV} : abT (some d) (st.put (some d) x) = if d < st.slots.length then x else .undef := by
 simp only [abT, St.put, List.getD_eq_getElem?_getD, List.getElem?_set]
 by_cases h : d < st.slots.length <;> simp [h]
theorem afo {d e : Nat} {x : AV} (h : AV.atAll e st.slots = false) (hx : d < st.slots.length → x.at e = false) : AV.atAll e (st.slots.set d x) = false := by
 rw [mJ] at h ⊢
 intro y hy
 rw [List.mem_iff_getElem?] at hy
 obtain ⟨i, hi⟩ := hy
 rw [List.getElem?_set] at hi
 split at hi
 ·split at hi
  ·rename_i hlt
   have := Option.some.inj hi
   subst this
   exact hx hlt
  ·cases hi
 ·exact h y (List.mem_of_getElem? hi)
theorem agJ {id : Nat} {b : Blk} {p : Nat × Blk} : ∀ {hp : Heap}, p ∈ insH id b hp → p = (id, b) ∨ p ∈ hp
 | [], h => by simpa [insH] using h
 | (i, c) :: r, h => by
   simp only [insH] at h
   cases hb : Nat.ble i id with
   | true =>
     rw [hb, cond_true] at h
     rcases List.mem_cons.1 h with h | h
     ·exact .inr (by simp [h])
     ·rcases agJ h with h | h
      ·exact .inl h
      ·exact .inr (List.mem_cons_of_mem _ h)
   | false =>
     rw [hb, cond_false] at h
     rcases List.mem_cons.1 h with h | h
     ·exact .inl h
     ·exact .inr h
theorem aeL {p : Nat × Blk} : ∀ {bs : List (Nat × Blk)} {hp : Heap}, p ∈ jW bs hp → p ∈ bs ∨ p ∈ hp
 | [], _, h => .inr h
 | (id, b) :: r, hp, h => by
   simp only [jW] at h
   rcases aeL h with h | h
   ·exact .inl (List.mem_cons_of_mem _ h)
   ·rcases agJ h with h | h
    ·exact .inl (by simp [h])
    ·exact .inr h
structure Zq (ns : List Nat) (dst : Option Tmp) (st : St) (q : List (Nat × Blk) × AV) : Prop where
 site : ∀ p ∈ q.1, p.1 / 64 = dst.getD 0
 blks : ∀ p ∈ q.1, ∀ d ∈ ns, p.2.at d = false
 val : ∀ d ∈ ns, ∀ e, dst = some e → e < st.slots.length → q.2.at d = false
theorem Zq.clean {ns : List Nat} {dst : Option Tmp} {q : List (Nat × Blk) × AV} (h : Zq ns dst st q) {d : Nat} (hd : d ∈ ns) (hne : d ≠ dst.getD 0) (hc : lJ d st) : lJ d (mkSt st dst q.1 q.2) := by
 constructor
 ·cases dst with
  | none => exact hc.1
  | some e => exact afo (st := ⟨st.slots, jW q.1 st.heap⟩) hc.1 fun hlt => h.val d hd e rfl hlt
 ·have : (mkSt st dst q.1 q.2).heap = jW q.1 st.heap := by cases dst <;> rfl
  rw [this, tV]
  intro p hp
  rcases aeL hp with hp | hp
  ·exact ⟨by rw [h.site p hp]; exact fun e => hne e.symm, h.blks p hp d hd⟩
  ·exact tV.1 hc.2 p hp
theorem Ux {o : Op} (h : tq o = true) : lY o = false := by
 cases o <;> simp [tq] at h <;> rfl
theorem afG {E : Env α} {ns : List Nat} (h : tq o.op = true) (k : St → Option α) : CJ E ns o st k = evOp E o st fun s => bif BV ns (abT o.dst s) then k s else none := by
 unfold CJ
 rw [Ux h, cond_false, h, cond_true]
theorem aac {ops : Array Oper} {d : Nat} {x : AV} (h : d ∉ vz ops o) : xy ops o (st.put (some d) x) = xy ops o st := by
 unfold xy
 cases hg : o.guard with
 | none => rfl
 | some p =>
   obtain ⟨j, want⟩ := p
   simp only [vz, hg] at h
   have hy : ∀ d', (ops[j]?).bind (·.dst) = some d' → (st.put (some d) x).slots.getD d' .undef = st.slots.getD d' .undef := fun d' hd => by
    rw [hd] at h
    simp only [List.mem_singleton] at h
    simp only [St.put, List.getD_eq_getElem?_getD, List.getElem?_set_ne h]
   simp only [Qx, Wq]
   cases hd : (ops[j]?).bind (·.dst) with
   | none => rfl
   | some d' => simp only [Option.bind_some, hy d' hd]
theorem yZ {ops : Array Oper} (h : Heap) : xy ops o ⟨st.slots, h⟩ = xy ops o st := rfl
theorem Xx (v : Value) (id : Nat) : (pK v).names id = false := Ez (d := id / 64) (ad5 v _) rfl
theorem QV {v : AV} {id : Nat} (h : v.names id = false) : jw id v = v := by simp [jw, h]
theorem afw (l : List AV) (id t : Nat) : (l.map (jw id)).getD t .undef = jw id (l.getD t .undef) := by
 simp only [List.getD_eq_getElem?_getD, List.getElem?_map]
 cases l[t]? with
 | none => simp [jw]
 | some x => rfl
theorem al9 {id : Nat} {h : Heap} (x : Operand) : St.get ⟨st.slots.map (jw id), h⟩ x = jw id (st.get x) := by
 cases x with
 | tmp t => exact afw _ _ _
 | const v => exact (QV (Xx v id)).symm
 | func f => exact (QV (by simp [St.get, AV.names, AV.namesAll])).symm
 | global g => exact (QV (by simp [St.get, AV.names])).symm
theorem ajK {ops : Array Oper} (id : Nat) (h : Heap) : xy ops o ⟨st.slots.map (jw id), h⟩ = xy ops o st := by
 unfold xy
 cases hg : o.guard with
 | none => rfl
 | some p =>
   obtain ⟨j, want⟩ := p
   simp only [Qx, Wq, afw]
   cases hd : (ops[j]?).bind (·.dst) with
   | none => rfl
   | some d =>
     simp only [Option.bind_some]
     generalize st.slots.getD d .undef = v
     cases hn : v.names id with
     | false => rw [QV hn]
     | true =>
       have e : jw id v = .undef := by simp [jw, hn]
       rw [e]
       cases v with
       | tup l => cases l with
         | nil => simp [AV.names, AV.namesAll] at hn
         | cons x r => rfl
       | bool b => simp [AV.names] at hn
       | _ => rfl
theorem sW {d : Nat} {v : AV} {x : Operand} {l : List Operand} (h : d ∉ lw l) (hx : x ∈ l) : (st.put (some d) v).get x = st.get x := by
 refine amO fun hm => h ?_
 clear h
 induction l with
 | nil => simp at hx
 | cons y r ih =>
   rcases List.mem_cons.1 hx with rfl | hx
   ·cases x with
    | tmp t => simp only [lw, List.mem_singleton] at hm ⊢; simp [hm]
    | _ => simp [lw] at hm
   ·have := ih hx
    cases y with
    | tmp t => simp only [lw, List.mem_cons]; exact .inr this
    | _ => simpa only [lw] using this
theorem ajX (E : Env α) (o : Oper) : (∀ (st : St) d x, d ∉ lw o.op.operands.toList → VK E o (st.put (some d) x) = VK E o st) ∧ ∀ (st : St) (h : Heap), VK E o ⟨st.slots, h⟩ = VK E o st := by
 constructor
 ·intro st d v hd
  unfold VK
  cases hop : o.op with
  | box t x =>
    rw [hop] at hd
    have : (st.put (some d) v).get x = st.get x := sW hd (by simp [Op.operands])
    simp only [this]
  | buildSlice t len parts =>
    rw [hop] at hd
    have : (parts.toList.map fun (i, x) => (i, (st.put (some d) v).get x)) = parts.toList.map fun (i, x) => (i, st.get x) := by
     refine List.map_congr_left fun p hp => ?_
     have : (st.put (some d) v).get p.2 = st.get p.2 := sW hd (by
      simp only [Op.operands]
      exact List.mem_map.2 ⟨p, hp, rfl⟩)
     simp only [this]
    simp only [this]
  | makeSlice t l c =>
    rw [hop] at hd
    have : (st.put (some d) v).get l = st.get l := sW hd (by simp [Op.operands])
    simp only [this]
  | _ => rfl
 ·intro st h
  unfold VK
  simp only [pW]
structure adE (E : Env α) (ops : Array Oper) (ns : List Nat) (o : Oper) (y : St → Option (List (Nat × Blk) × AV)) : Prop where
 form : ∀ st (k : St → Option α), lX E ops ns o st k = (y st).bind fun q => k (mkSt st o.dst q.1 q.2)
 slot : ∀ st d x, d ∉ lw o.op.operands.toList ++ vz ops o → y (st.put (some d) x) = y st
 heap : ∀ (d : Nat) (st : St) (h' : Heap), (∀ x ∈ o.op.operands.toList, (st.get x).at d = false) → (∀ id, id / 64 ≠ d → look h' id = look st.heap id) → y ⟨st.slots, h'⟩ = y st
 sep : ∀ (st : St) (h' : Heap), (∀ x ∈ o.op.operands.toList, ∀ id, (st.get x).names id = true → look h' id = look st.heap id) → y ⟨st.slots, h'⟩ = y st
 free : (gq o.op || lY o.op) = true → ∀ (st : St) (h : Heap), y ⟨st.slots, h⟩ = y st
 load : ∀ l, kK o.op l = true → ∀ (st : St) (id : Nat) (b' : Blk), (∀ s ∈ l, ∃ j r c, st.slots.getD s .undef = .ptr j r c ∧ j ≠ id) → y ⟨st.slots, upd st.heap id b'⟩ = y st
 shape : nZ o.op = true → ∀ (st : St) (id : Nat) (b b' : Blk), look st.heap id = some b → b'.w = b.w → b'.n = b.n → y ⟨st.slots, upd st.heap id b'⟩ = y st
 kill : tq o.op = true → (gq o.op || nZ o.op) = true → ∀ (st : St) (id : Nat) (h' : Heap), (∀ x ∈ o.op.operands.toList, (st.get x).names id = false) → (∀ j, j ≠ id → ∀ (β : Type) (f : Blk → Option β), (∀ c c' : Blk, c.w = c'.w → c.n = c'.n → f c = f c') → (look h' j).bind f = (look st.heap j).bind f) → y ⟨st.slots.map (jw id), h'⟩ = y st
 made : ∀ st q, y st = some q → Zq ns o.dst st q
 none : lY o.op = false → ∀ st q, y st = some q → q.1 = []
theorem amV {d : Nat} {x : AV} : (st.put (some d) x).slots.length = st.slots.length := by simp [St.put]
theorem JQ (E : Env α) (ops : Array Oper) (ns : List Nat) (o : Oper) (h : rq o.op = true) {dd : Nat} (hdst : o.dst = some dd) : ∃ y, adE E ops ns o y := by
 cases hm : lY o.op with
 | true =>
   obtain ⟨m1, m2⟩ := ajX E o
   refine ⟨fun st => (xy ops o st).bind fun g => bif g then (VK E o st).bind fun q => bif BV ns q.2 && JJ ns [(gJ o.dst, q.1)] then some ([(gJ o.dst, q.1)], q.2) else .none else some ([], .tup []), ⟨fun st k => ?_, fun st d x hd => ?_, fun d st h' _ _ => ?_, fun st h' _ => ?_, fun _ st h' => ?_, fun l hl => ?_, fun hsh => ?_, fun hiv => absurd (Ux hiv) (by simp [hm]), fun st q hq => ?_, fun e => ?_⟩⟩
   ·unfold lX
    rw [Option.bind_assoc]
    refine iW fun g => ?_
    cases g with
    | false => rfl
    | true =>
      simp only [cond_true, CJ, hm, Option.bind_assoc]
      refine iW fun q => ?_
      rw [dX]
      rfl
   ·simp only [List.mem_append, not_or] at hd
    simp only [aac hd.2, m1 _ _ _ hd.1]
   ·simp only [yZ, m2]
   ·simp only [yZ, m2]
   ·simp only [yZ, m2]
   ·generalize o.op = op at hl hm
    cases op <;> simp [kK] at hl <;> simp [lY] at hm
   ·generalize o.op = op at hsh hm
    cases op <;> simp [nZ] at hsh <;> simp [lY] at hm
   ·rw [Option.bind_eq_some_iff] at hq
    obtain ⟨g, _, hq⟩ := hq
    cases g with
    | false =>
      rw [cond_false] at hq
      have := Option.some.inj hq
      subst this
      exact ⟨by simp, by simp, fun d _ e _ _ => rfl⟩
    | true =>
      rw [cond_true, Option.bind_eq_some_iff] at hq
      obtain ⟨p, _, hq⟩ := hq
      obtain ⟨hc, hq⟩ := ifB hq
      have := Option.some.inj hq
      subst this
      simp only [Bool.and_eq_true] at hc
      refine ⟨fun p hp => ?_, YX.1 hc.2, fun d hd e _ _ => Iw.1 hc.1 d hd⟩
      simp only [List.mem_singleton] at hp
      subst hp
      unfold gJ
      simp
   ·rw [e] at hm; cases hm
 | false =>
   have hv : tq o.op = true := by
    simp only [rq, hm, Bool.or_false] at h
    exact h
   obtain ⟨y0, e0, fc0, g0, l0, p0, sg0⟩ := ahb E o hv
   have f0 : ∀ (st : St) (d : Nat) (x : AV), d ∉ lw o.op.operands.toList → y0 (st.put (some d) x) = y0 st := fun st d x hd => fc0 st _ (fun z hz => sW hd hz) rfl
   have s0 : nZ o.op = true → ∀ (st : St) (id : Nat) (b b' : Blk), look st.heap id = some b → b'.w = b.w → b'.n = b.n → y0 ⟨st.slots, upd st.heap id b'⟩ = y0 st := fun hsh st id b b' hb hw hnn => sg0 hsh st _ fun _ _ j _ _ f hf => aeS hw hnn hb j f hf
   refine ⟨fun st => (xy ops o st).bind fun g => bif g then (y0 st).bind fun x => bif BV ns (abT o.dst (st.put o.dst x)) then some ([], x) else .none else some ([], .tup []), ⟨fun st k => ?_, fun st d x hd => ?_, fun d st h' h1 h2 => ?_, fun st h' h1 => ?_, fun hf st h' => ?_, fun l hl st id b' hs => ?_, fun hsh st id b b' hb hw hnn => ?_, fun _ hms st id h' hnm hlk => ?_, fun st q hq => ?_, fun _ st q hq => ?_⟩⟩
   ·unfold lX
    rw [Option.bind_assoc]
    refine iW fun g => ?_
    cases g with
    | false => rfl
    | true =>
      simp only [cond_true, afG hv, e0, Option.bind_assoc]
      refine iW fun x => ?_
      rw [dX]
      rfl
   ·simp only [List.mem_append, not_or] at hd
    simp only [aac hd.2, f0 _ _ _ hd.1, hdst, EJ, amV]
   ·have h3 : ∀ x ∈ o.op.operands.toList, ∀ id, (st.get x).names id = true → look h' id = look st.heap id := fun x hx id hid => h2 id fun e => by
     have := Ez (h1 x hx) e
     rw [hid] at this
     cases this
    simp only [yZ, p0 st h' h3, hdst, EJ]
   ·simp only [yZ, p0 st h' h1, hdst, EJ]
   ·rw [hm, Bool.or_false] at hf
    simp only [yZ, g0 hf, hdst, EJ]
   ·simp only [yZ, l0 l hl st id b' hs, hdst, EJ]
   ·simp only [yZ, s0 hsh st id b b' hb hw hnn, hdst, EJ]
   ·have e1 : y0 ⟨st.slots.map (jw id), h'⟩ = y0 ⟨st.slots, h'⟩ := fc0 ⟨st.slots, h'⟩ ⟨st.slots.map (jw id), h'⟩ (fun x hx => (al9 x).trans ((QV (hnm x hx)).trans pW.symm)) rfl
    have e2 : y0 ⟨st.slots, h'⟩ = y0 st := by
     rw [Bool.or_eq_true] at hms
     rcases hms with hms | hms
     ·exact g0 hms st h'
     ·exact sg0 hms st h' fun x hx j hj β f hf => hlk j (fun e => by
       subst e
       rw [hnm x hx] at hj
       cases hj) β f hf
    have e3 : ∀ v, abT (some dd) (St.put ⟨st.slots.map (jw id), h'⟩ (some dd) v) = abT (some dd) (st.put (some dd) v) := fun v => by
     simp only [EJ, List.length_map]
    simp only [ajK, e1, e2, hdst, e3]
   ·rw [Option.bind_eq_some_iff] at hq
    obtain ⟨g, _, hq⟩ := hq
    cases g with
    | false =>
      rw [cond_false] at hq
      have := Option.some.inj hq
      subst this
      exact ⟨by simp, by simp, fun d _ e _ _ => rfl⟩
    | true =>
      rw [cond_true, Option.bind_eq_some_iff] at hq
      obtain ⟨x, _, hq⟩ := hq
      obtain ⟨hc, hq⟩ := ifB hq
      have := Option.some.inj hq
      subst this
      refine ⟨by simp, by simp, fun d hd e he hlt => ?_⟩
      rw [he, EJ, if_pos hlt] at hc
      exact Iw.1 hc d hd
   ·rw [Option.bind_eq_some_iff] at hq
    obtain ⟨g, _, hq⟩ := hq
    cases g with
    | false =>
      rw [cond_false] at hq
      have := Option.some.inj hq
      subst this
      rfl
    | true =>
      rw [cond_true, Option.bind_eq_some_iff] at hq
      obtain ⟨x, _, hq⟩ := hq
      obtain ⟨_, hq⟩ := ifB hq
      have := Option.some.inj hq
      subst this
      rfl
theorem afe {da db : Nat} {qa qb : List (Nat × Blk) × AV} (hne : da ≠ db) (hs : ∀ p ∈ qa.1, ∀ q ∈ qb.1, p.1 ≠ q.1) : mkSt (mkSt st (some da) qa.1 qa.2) (some db) qb.1 qb.2 = mkSt (mkSt st (some db) qb.1 qb.2) (some da) qa.1 qa.2 := by
 simp only [mkSt, St.put]
 rw [List.set_comm _ _ hne, adt hs]
theorem adE.behind {E : Env α} {ops : Array Oper} {ns ms : List Nat} {y : St → Option (List (Nat × Blk) × AV)} (hy : adE E ops ns o y) {d : Nat} {q : List (Nat × Blk) × AV} (hd : d ∉ lw o.op.operands.toList ++ vz ops o) (hq : Zq ms (some d) st q) (hc : q.1 = [] ∨ lJ d st) : y (mkSt st (some d) q.1 q.2) = y st := by
 unfold mkSt
 rw [hy.slot _ _ _ hd]
 rcases hc with hc | hc
 ·rw [hc]
  rfl
 ·exact hy.heap d st _ (fun x _ => hc.get x) fun id hid => Dv fun p hp e => hid (by rw [← e]; exact hq.site p hp)
theorem acY {d : Nat} {ban : List Nat} {h h' : Heap} (hl : ∀ id, id / 64 ≠ d → look h' id = look h id) (hb : ∀ id b, look h id = some b → b.at d = false) : ∀ (n : Nat) (v : AV), v.at d = false → toD ban h' n v = toD ban h n v
 | 0, v, _ => rfl
 | n + 1, v, hv => by
   have all : ∀ (l : List AV), AV.atAll d l = false → allD (toD ban h' n) l = allD (toD ban h n) l := by
    intro l
    induction l with
    | nil => intro _; rfl
    | cons x r ih =>
      intro hx
      simp only [AV.atAll, Bool.or_eq_false_iff] at hx
      simp only [allD, acY hl hb n x hx.1, ih hx.2]
   cases v with
   | agg l => rfl
   | fn f l =>
     simp only [AV.at] at hv
     simp only [toD, all l hv]
   | sl id =>
     simp only [AV.at] at hv
     simp only [toD, hl id (VJ hv)]
     cases hlk : look h id with
     | none => rfl
     | some b =>
       have := hb id b hlk
       cases b with
       | map => first | rfl | (cases h; done) | (simp at h; done) | (simp at *; done)
       | bld => first | rfl | (cases h; done) | (simp at h; done) | (simp at *; done)
       | rows => rfl
       | mix m e l =>
         simp only [Blk.at] at this
         simp only [Option.bind_some, all l this]
   | sub id lo m =>
     simp only [AV.at] at hv
     simp only [toD, hl id (VJ hv)]
   | ptr id r c =>
     simp only [AV.at] at hv
     match r, c with
     | 0, 0 =>
       simp only [toD, hl id (VJ hv)]
       cases hlk : look h id with
       | none => rfl
       | some b =>
         have := hb id b hlk
         cases b with
         | map => first | rfl | (cases h; done) | (simp at h; done) | (simp at *; done)
         | bld => first | rfl | (cases h; done) | (simp at h; done) | (simp at *; done)
         | rows => rfl
         | mix m e l =>
           simp only [Blk.at] at this
           simp only [Option.bind_some, all l this]
     | 0, c + 1 => rfl
     | r + 1, c => rfl
   | _ => rfl
theorem ajE {β γ : Type} {x : Option β} {f g : β → Option γ} (h : ∀ b, x = some b → f b = g b) : x.bind f = x.bind g := by
 cases x with
 | none => rfl
 | some b => exact h b rfl
theorem agn {d : Nat} {ban : List Nat} {h h' : Heap} (hl : ∀ id, id / 64 ≠ d → look h' id = look h id) (hb : ∀ id b, look h id = some b → b.at d = false) (n : Nat) : ∀ (l : List AV), AV.atAll d l = false → allD (toD ban h' n) l = allD (toD ban h n) l
 | [], _ => rfl
 | x :: r, hx => by
   simp only [AV.atAll, Bool.or_eq_false_iff] at hx
   simp only [allD, acY hl hb n x hx.1, agn hl hb n r hx.2]
theorem ajS {d : Nat} {ban : List Nat} {h h' : Heap} (hl : ∀ id, id / 64 ≠ d → look h' id = look h id) (hb : ∀ id b, look h id = some b → b.at d = false) (v : AV) (hv : v.at d = false) : OW ban h' v = OW ban h v := by
 unfold OW
 split
 ·rename_i id
  simp only [AV.at] at hv
  rw [hl id (VJ hv)]
 ·rename_i id
  simp only [AV.at] at hv
  rw [hl id (VJ hv)]
  refine ajE fun b hlk => ?_
  have := hb id b hlk
  cases b with
  | map => first | rfl | (cases h; done) | (simp at h; done) | (simp at *; done)
  | bld => first | rfl | (cases h; done) | (simp at h; done) | (simp at *; done)
  | rows => rfl
  | mix m e l =>
    simp only [Blk.at] at this
    have := agn (ban := ban) hl hb 3 l this
    simp only [this]
 ·rfl
 ·rfl
theorem adL {d : Nat} {ban : List Nat} {h h' : Heap} (hl : ∀ id, id / 64 ≠ d → look h' id = look h id) (hb : ∀ id b, look h id = some b → b.at d = false) : ∀ (M : List Nat) (vs : List AV), (∀ v ∈ vs, v.at d = false) → sZ ban h' M vs = sZ ban h M vs
 | M, [], _ => by cases M <;> rfl
 | [], v :: vs, hv => by
   simp only [sZ, acY (ban := ban) hl hb 4 v (hv v (by simp)), adL hl hb [] vs fun x hx => hv x (List.mem_cons_of_mem _ hx)]
 | m :: ms, v :: vs, hv => by
   have ih := adL (ban := ban) hl hb ms vs fun x hx => hv x (List.mem_cons_of_mem _ hx)
   have h4 := acY (ban := ban) hl hb 4 v (hv v (by simp))
   match m with
   | 1 => simp only [sZ, ajS hl hb v (hv v (by simp)), ih]
   | 0 => simp only [sZ, h4, ih]
   | m + 2 => simp only [sZ, h4, ih]
theorem alB {E : Env α} {dst : Option Tmp} {f : AV} {args : List AV} {h h' : Heap} {d : Nat} (hl : ∀ id, id / 64 ≠ d → look h' id = look h id) (hb : ∀ id b, look h id = some b → b.at d = false) (hf : f.at d = false) (ha : ∀ v ∈ args, v.at d = false) : Vw E dst f args h' = Vw E dst f args h := by
 unfold Vw
 split
 ·rename_i g caps
  simp only [AV.at] at hf
  refine iW fun ids => ?_
  rw [adL hl hb (E.M g) (args ++ caps) fun v hv => by
   rcases List.mem_append.1 hv with hv | hv
   ·exact ha v hv
   ·exact mJ.1 hf v hv]
 ·rfl
theorem afF {E : Env α} {dst : Option Tmp} {f : AV} {args : List AV} {h : Heap} {p : FuncId × List D × List AV × List Nat} (hp : Vw E dst f args h = some p) :
 ∃ caps, f = .fn p.1 caps ∧ p.2.2.1 = args ++ caps ∧ jX (E.M p.1) (args ++ caps) = some p.2.2.2 ∧ Wx p.2.2.2 = true ∧ Nat.ble E.low (gJ dst) = true ∧ sZ p.2.2.2 h (E.M p.1) (args ++ caps) = some p.2.1 := by
 unfold Vw at hp
 split at hp
 ·rename_i g caps
  rw [Option.bind_eq_some_iff] at hp
  obtain ⟨ids, hids, hp⟩ := hp
  obtain ⟨hc, hp⟩ := ifB hp
  rw [Option.map_eq_some_iff] at hp
  obtain ⟨ds, hds, rfl⟩ := hp
  simp only [Bool.and_eq_true] at hc
  exact ⟨caps, rfl, rfl, hids, hc.1, hc.2, hds⟩
 ·cases hp
theorem ab3 : ∀ {M : List Nat} {vs : List AV} {ids : List Nat}, jX M vs = some ids → ∀ id ∈ ids, ∃ v ∈ vs, v.names id = true
 | M, [], ids, h, id, hid => by
   cases M <;> simp only [jX, Option.some.injEq] at h <;> subst h <;> simp at hid
 | [], v :: vs, ids, h, id, hid => by
   simp only [jX, Option.some.injEq] at h
   subst h
   simp at hid
 | m :: ms, v :: vs, ids, h, id, hid => by
   have rest : ∀ {is : List Nat}, jX ms vs = some is → id ∈ is → ∃ x ∈ v :: vs, x.names id = true := fun h hi => by
    obtain ⟨x, hx, hn⟩ := ab3 h id hi
    exact ⟨x, by simp [hx], hn⟩
   match m with
   | 1 =>
     simp only [jX] at h
     split at h
     ·rw [Option.map_eq_some_iff] at h
      obtain ⟨is, h, rfl⟩ := h
      rcases List.mem_cons.1 hid with rfl | hi
      ·exact ⟨.sl id, by simp, by simp only [AV.names, Nat.beq_refl]⟩
      ·exact rest h hi
     ·rw [Option.map_eq_some_iff] at h
      obtain ⟨is, h, rfl⟩ := h
      rcases List.mem_cons.1 hid with rfl | hi
      ·exact ⟨.ptr id 0 0, by simp, by simp only [AV.names, Nat.beq_refl]⟩
      ·exact rest h hi
     ·exact rest h hid
     ·cases h
   | 0 => simp only [jX] at h; exact rest h hid
   | m + 2 => simp only [jX] at h; exact rest h hid
theorem ah5 : ∀ {ids : List Nat} {ds : List D} {h h' : Heap}, Go.Ev.back h ids ds = some h' → ∀ j, j ∉ ids → look h' j = look h j
 | [], [], h, h', e, j, _ => by
   simp only [Go.Ev.back, Option.some.injEq] at e
   rw [e]
 | id :: ids, d :: ds, h, h', e, j, hj => by
   simp only [Go.Ev.back, Option.bind_eq_some_iff] at e
   obtain ⟨h1, e1, e⟩ := e
   simp only [YK, Option.bind_eq_some_iff, Option.map_eq_some_iff] at e1
   obtain ⟨b, hb, b', hb', rfl⟩ := e1
   simp only [List.mem_cons, not_or] at hj
   rw [ah5 e j hj.2, aaW hj.1]
 | [], _ :: _, h, h', e, _, _ => by simp [Go.Ev.back] at e
 | _ :: _, [], h, h', e, _, _ => by simp [Go.Ev.back] at e
theorem ajj {bs : List (Nat × Blk)} : ∀ {ids : List Nat} {ds : List D} {h : Heap}, (∀ p ∈ bs, ∀ id ∈ ids, id ≠ p.1) → Go.Ev.back (jW bs h) ids ds = (Go.Ev.back h ids ds).map (jW bs)
 | [], [], h, _ => rfl
 | id :: ids, d :: ds, h, hn => by
   have hlk : look (jW bs h) id = look h id := Dv fun p hp e => hn p hp id (by simp) e.symm
   simp only [Go.Ev.back, YK, hlk]
   cases hb : look h id with
   | none => rfl
   | some b =>
     simp only [Option.bind_some]
     cases hu : upd1 b d with
     | none => rfl
     | some b' =>
       simp only [Option.map_some, Option.bind_some]
       rw [abx (fun p hp => hn p hp id (by simp)) (by rw [hb]; simp)]
       exact ajj fun p hp j hj => hn p hp j (by simp [hj])
 | [], _ :: _, h, _ => rfl
 | _ :: _, [], h, _ => rfl
theorem ahW {id : Nat} {b : Blk} : ∀ {h : Heap}, look h id ≠ none → (upd h id b).length = h.length
 | [], hn => by simp [look] at hn
 | (j, c) :: r, hn => by
   simp only [upd]
   simp only [look] at hn
   cases hj : Nat.beq j id with
   | true => rfl
   | false =>
     rw [hj, cond_false] at hn
     simp [ahW hn]
theorem ajT : ∀ {ids : List Nat} {ds : List D} {h h' : Heap}, Go.Ev.back h ids ds = some h' → h'.length = h.length
 | [], [], h, h', e => by
   simp only [Go.Ev.back, Option.some.injEq] at e
   rw [e]
 | id :: ids, d :: ds, h, h', e => by
   simp only [Go.Ev.back, Option.bind_eq_some_iff] at e
   obtain ⟨h1, e1, e⟩ := e
   simp only [YK, Option.bind_eq_some_iff, Option.map_eq_some_iff] at e1
   obtain ⟨b, hb, b', hb', rfl⟩ := e1
   rw [ajT e, ahW (by rw [hb]; simp)]
 | [], _ :: _, h, h', e => by simp [Go.Ev.back] at e
 | _ :: _, [], h, h', e => by simp [Go.Ev.back] at e
theorem ahH {d : D} {v : AV} {x : Nat} (h : nK d = some v) : v.at x = false := by
 cases d <;> simp [nK] at h <;> subst h <;> rfl
theorem Zj {x : Nat} : ∀ {vs us : List AV} {ds : List D}, nX vs ds = some us → AV.atAll x vs = false → AV.atAll x us = false
 | [], us, [], h, _ => by
   simp only [nX, Option.some.injEq] at h
   subst h
   rfl
 | [], us, _ :: _, h, _ => by simp [nX] at h
 | _ :: _, us, [], h, _ => by simp [nX] at h
 | v :: vs, us, d :: ds, h, hv => by
   simp only [AV.atAll, Bool.or_eq_false_iff] at hv
   simp only [nX] at h
   split at h
   ·rw [Option.map_eq_some_iff] at h
    obtain ⟨us', h, rfl⟩ := h
    simp only [AV.atAll, hv.1, Zj h hv.2, Bool.or_self]
   ·rw [Option.bind_eq_some_iff] at h
    obtain ⟨u, hu, h⟩ := h
    rw [Option.map_eq_some_iff] at h
    obtain ⟨us', h, rfl⟩ := h
    simp only [AV.atAll, ahH hu, Zj h hv.2, Bool.or_self]
theorem am3 {b b' : Blk} {d : D} {x : Nat} (h : upd1 b d = some b') (hb : b.at x = false) : b'.at x = false := by
 unfold upd1 at h
 split at h
 ·split at h
  ·have := Option.some.inj h
   subst this
   rfl
  ·cases h
 ·rw [Option.bind_eq_some_iff] at h
  obtain ⟨vs, _, h⟩ := h
  obtain ⟨_, h⟩ := ifB h
  rw [Option.map_eq_some_iff] at h
  obtain ⟨l', _, rfl⟩ := h
  rfl
 ·rw [Option.map_eq_some_iff] at h
  obtain ⟨vs, h, rfl⟩ := h
  simp only [Blk.at] at hb ⊢
  exact Zj h hb
 ·cases h
theorem ag8 {id : Nat} {b : Blk} {p : Nat × Blk} : ∀ {h : Heap}, p ∈ upd h id b → p = (id, b) ∨ p ∈ h
 | [], hp => by
   simp only [upd, List.mem_singleton] at hp
   exact .inl hp
 | (j, c) :: r, hp => by
   simp only [upd] at hp
   cases hj : Nat.beq j id with
   | true =>
     rw [hj, cond_true] at hp
     rcases List.mem_cons.1 hp with h | h
     ·exact .inl h
     ·exact .inr (by simp [h])
   | false =>
     rw [hj, cond_false] at hp
     rcases List.mem_cons.1 hp with h | h
     ·exact .inr (by simp [h])
     ·rcases ag8 h with h | h
      ·exact .inl h
      ·exact .inr (by simp [h])
theorem abK {d : Nat} {sl : List AV} : ∀ {ids : List Nat} {ds : List D} {h h' : Heap}, Go.Ev.back h ids ds = some h' → lJ d ⟨sl, h⟩ → lJ d ⟨sl, h'⟩
 | [], [], h, h', e, hc => by
   simp only [Go.Ev.back, Option.some.injEq] at e
   rw [← e]
   exact hc
 | id :: ids, dd :: ds, h, h', e, hc => by
   simp only [Go.Ev.back, Option.bind_eq_some_iff] at e
   obtain ⟨h1, e1, e⟩ := e
   simp only [YK, Option.bind_eq_some_iff, Option.map_eq_some_iff] at e1
   obtain ⟨b, hb, b', hb', rfl⟩ := e1
   refine abK e ⟨hc.1, tV.2 fun p hp => ?_⟩
   have hbk := hc.blk (st := ⟨sl, h⟩) hb
   rcases ag8 hp with rfl | hp
   ·exact ⟨hbk.1, am3 hb' hbk.2⟩
   ·exact tV.1 hc.2 p hp
 | [], _ :: _, h, h', e, _ => by simp [Go.Ev.back] at e
 | _ :: _, [], h, h', e, _ => by simp [Go.Ev.back] at e
theorem WZ {st : St} {id : Nat} : ∀ {L : List Nat}, SQ.freeOf1 st id L = true ↔ ∀ s ∈ L, (st.slots.getD s .undef).names id = false
 | [] => by simp [SQ.freeOf1]
 | s :: r => by
   simp only [SQ.freeOf1, Bool.and_eq_true, Bool.not_eq_true', WZ, List.mem_cons, forall_eq_or_imp]
theorem abQ {st : St} {L : List Nat} : ∀ {ids : List Nat}, SQ st ids L = true ↔ ∀ id ∈ ids, ∀ s ∈ L, (st.slots.getD s .undef).names id = false
 | [] => by simp [SQ]
 | id :: r => by
   simp only [SQ, Bool.and_eq_true, WZ, abQ, List.mem_cons, forall_eq_or_imp]
theorem ack {b : Oper} (h : Dy b.op = true) : ∃ c f, b.op = .call c ∧ c.callee = .value f ∧ b.op.operands.toList = f :: c.args.toList ∧ lY b.op = false := by
 unfold Dy at h
 split at h
 ·rename_i c hop
  split at h
  ·rename_i f hcal
   exact ⟨c, f, hop, hcal, by rw [hop]; simp [Op.operands, Call.operands, hcal], by rw [hop]; rfl⟩
  ·cases h
 ·cases h
theorem acs (E : Env α) (ops : Array Oper) (ns : List Nat) {b : Oper} {c : Call} {f : Operand} (hop : b.op = .call c) (hcal : c.callee = .value f) (st : St) (k : St → Option α) : lX E ops ns b st k = (xy ops b st).bind fun g => bif g then (Vw E b.dst (st.get f) (c.args.toList.map st.get) st.heap).bind fun p => E.C p.1 p.2.1 fun r => (Go.Ev.back st.heap p.2.2.2 r.outs).bind fun h => (ab2 p.2.2.1 (gJ b.dst) r).bind fun q => bif BV ns q.2 && JJ ns q.1 then k (mkSt ⟨st.slots, h⟩ b.dst q.1 q.2) else none else k (st.put b.dst (.tup [])) := by
 unfold lX CJ
 have h1 : lY b.op = false := by rw [hop]; rfl
 have h2 : tq b.op = false := by rw [hop]; simp [tq, hcal]
 have h3 : Dy b.op = true := by rw [hop]; simp [Dy, hcal]
 simp only [h1, h2, h3, cond_false, cond_true]
 simp only [hop, hcal, aeZ]
theorem aga {n m : Nat} {d : D} {bs : List (Nat × Blk)} {v : AV} (h : impC n d = some (bs, v, m)) : n ≤ m ∧ (∀ p ∈ bs, n ≤ p.1 ∧ p.1 < m) ∧ ∀ hp, (∀ i, n ≤ i → i < m → look hp i = none) → qy bs hp := by
 cases d with
 | sl e t l =>
   simp only [impC, Option.some.injEq, Prod.mk.injEq] at h
   obtain ⟨rfl, rfl, rfl⟩ := h
   exact ⟨by omega, by simp, fun hp hl => ⟨hl n (by omega) (by omega), by simp, trivial⟩⟩
 | _ =>
   simp only [impC, Option.map_eq_some_iff, Prod.mk.injEq] at h
   obtain ⟨_, _, rfl, rfl, rfl⟩ := h
   exact ⟨by omega, by simp, fun _ _ => trivial⟩
theorem qy.app {as bs : List (Nat × Blk)} {hp : Heap} (h1 : qy as hp) (h2 : qy bs hp) (h3 : ∀ p ∈ as, ∀ q ∈ bs, p.1 ≠ q.1) : qy (as ++ bs) hp := by
 induction as with
 | nil => exact h2
 | cons p as ih =>
   obtain ⟨a, b, c⟩ := h1
   refine ⟨a, fun q hq => ?_, ih c fun x hx => h3 x (List.mem_cons_of_mem _ hx)⟩
   rcases List.mem_append.1 hq with hq | hq
   ·exact b q hq
   ·exact fun e => h3 p (by simp) q hq e.symm
theorem aaL : ∀ {ds : List D} {n m : Nat} {bs : List (Nat × Blk)} {vs : List AV}, VY n ds = some (bs, vs, m) → n ≤ m ∧ (∀ p ∈ bs, n ≤ p.1 ∧ p.1 < m) ∧ ∀ hp, (∀ i, n ≤ i → i < m → look hp i = none) → qy bs hp
 | [], n, m, bs, vs, h => by
   simp only [VY, Option.some.injEq, Prod.mk.injEq] at h
   obtain ⟨rfl, rfl, rfl⟩ := h
   exact ⟨by omega, by simp, fun _ _ => trivial⟩
 | d :: ds, n, m, bs, vs, h => by
   simp only [VY, Option.bind_eq_some_iff, Option.map_eq_some_iff, Prod.mk.injEq] at h
   obtain ⟨⟨b1, v1, m1⟩, h1, ⟨b2, v2, m2⟩, h2, rfl, rfl, rfl⟩ := h
   obtain ⟨g1, g2, g3⟩ := aga h1
   obtain ⟨k1, k2, k3⟩ := aaL h2
   simp only at *
   refine ⟨by omega, fun p hp => ?_, fun hp hl => qy.app (g3 hp fun i a b => hl i a (by omega)) (k3 hp fun i a b => hl i (by omega) b) fun p hp q hq => ?_⟩
   ·rcases List.mem_append.1 hp with hp | hp
    ·have := g2 p hp; omega
    ·have := k2 p hp; omega
   ·have := g2 p hp
    have := k2 q hq
    omega
theorem akP {avs : List AV} {n m : Nat} {d : D} {bs : List (Nat × Blk)} {v : AV} (h : imp1 avs n d = some (bs, v, m)) : n ≤ m ∧ (∀ p ∈ bs, n ≤ p.1 ∧ p.1 < m) ∧ ∀ hp, (∀ i, n ≤ i → i < m → look hp i = none) → qy bs hp := by
 cases d with
 | agg l =>
   simp only [imp1, Option.map_eq_some_iff, Prod.mk.injEq] at h
   obtain ⟨⟨b1, v1, m1⟩, h1, rfl, rfl, rfl⟩ := h
   exact aaL h1
 | ptr e l =>
   simp only [imp1, Option.map_eq_some_iff, Prod.mk.injEq] at h
   obtain ⟨⟨b1, v1, m1⟩, h1, rfl, rfl, rfl⟩ := h
   obtain ⟨g1, g2, g3⟩ := aaL h1
   simp only at *
   refine ⟨by omega, fun p hp => ?_, fun hp hl => qy.app (g3 hp fun i a b => hl i a (by omega)) ⟨hl m1 (by omega) (by omega), by simp, trivial⟩ fun p hp q hq => ?_⟩
   ·rcases List.mem_append.1 hp with hp | hp
    ·have := g2 p hp; omega
    ·simp only [List.mem_singleton] at hp
     subst hp
     simp only
     omega
   ·simp only [List.mem_singleton] at hq
    subst hq
    have := g2 p hp
    simp only
    omega
 | same j =>
   simp only [imp1, Option.map_eq_some_iff, Prod.mk.injEq] at h
   obtain ⟨_, _, rfl, rfl, rfl⟩ := h
   exact ⟨by omega, by simp, fun _ _ => trivial⟩
 | _ => (unfold imp1 at h; exact aga h)
theorem aaD {avs : List AV} : ∀ {ds : List D} {n m : Nat} {bs : List (Nat × Blk)} {vs : List AV}, YV avs n ds = some (bs, vs, m) → n ≤ m ∧ (∀ p ∈ bs, n ≤ p.1 ∧ p.1 < m) ∧ ∀ hp, (∀ i, n ≤ i → i < m → look hp i = none) → qy bs hp
 | [], n, m, bs, vs, h => by
   simp only [YV, Option.some.injEq, Prod.mk.injEq] at h
   obtain ⟨rfl, rfl, rfl⟩ := h
   exact ⟨by omega, by simp, fun _ _ => trivial⟩
 | d :: ds, n, m, bs, vs, h => by
   simp only [YV, Option.bind_eq_some_iff, Option.map_eq_some_iff, Prod.mk.injEq] at h
   obtain ⟨⟨b1, v1, m1⟩, h1, ⟨b2, v2, m2⟩, h2, rfl, rfl, rfl⟩ := h
   obtain ⟨g1, g2, g3⟩ := akP h1
   obtain ⟨k1, k2, k3⟩ := aaD h2
   simp only at *
   refine ⟨by omega, fun p hp => ?_, fun hp hl => qy.app (g3 hp fun i a b => hl i a (by omega)) (k3 hp fun i a b => hl i (by omega) b) fun p hp q hq => ?_⟩
   ·rcases List.mem_append.1 hp with hp | hp
    ·have := g2 p hp; omega
    ·have := k2 p hp; omega
   ·have := g2 p hp
    have := k2 q hq
    omega
theorem agF {avs : List AV} {n : Nat} {r : Res} {q : List (Nat × Blk) × AV} (h : ab2 avs n r = some q) : ∃ vs m, YV avs n r.rs = some (q.1, vs, m) ∧ m ≤ n + 64 ∧ q.2 = Vz vs := by
 unfold ab2 at h
 rw [Option.bind_eq_some_iff] at h
 obtain ⟨⟨bs, vs, m⟩, h1, h⟩ := h
 obtain ⟨hc, h⟩ := ifB h
 have := Option.some.inj h
 subst this
 exact ⟨vs, m, h1, Nat.le_of_ble_eq_true hc, rfl⟩
theorem aff {avs : List AV} {ms : List Nat} {b : Oper} {r : Res} {q : List (Nat × Blk) × AV} (h : ab2 avs (gJ b.dst) r = some q) (hc : (BV ms q.2 && JJ ms q.1) = true) : Zq ms b.dst st q := by
 obtain ⟨vs, m, h1, hm, _⟩ := agF h
 obtain ⟨_, g2, _⟩ := aaD h1
 simp only [Bool.and_eq_true] at hc
 refine ⟨fun p hp => ?_, YX.1 hc.2, fun d hd e _ _ => Iw.1 hc.1 d hd⟩
 have := g2 p hp
 unfold gJ at this hm
 omega
theorem am0 {ops : Array Oper} {na nb : List Nat} {a b : Oper} (h : Gz ops a b = true) {st : St} (hca : lY a.op = true → lJ (kY a) st) (hcb : qw b.op = true → lJ (kY b) st) {k : St → Option α}
 (hk : (lX E ops na a st fun s => lX E ops nb b s k) = some r) : (lX E ops nb b st fun s => lX E ops na a s k) = some r := by
 simp only [Gz, Bool.and_eq_true] at h
 obtain ⟨⟨ha, hb⟩, h⟩ := h
 split at h
 ·rename_i da db hda hdb
  simp only [Bool.and_eq_true, Bool.not_eq_true'] at h
  have hne := iQ h.1
  have h1 := mY h.2.1
  have h2 := mY h.2.2
  have ea : kY a = da := by simp [kY, hda]
  have eb : kY b = db := by simp [kY, hdb]
  rw [ea] at hca
  rw [eb] at hcb
  obtain ⟨ya, fa⟩ := JQ E ops na a ha hda
  rw [fa.form, Option.bind_eq_some_iff] at hk
  obtain ⟨qa, hqa, hk⟩ := hk
  have ma := fa.made st qa hqa
  rw [hda] at hk ma
  have hqc : qa.1 = [] ∨ lJ da st := by
   cases hm : lY a.op with
   | true => exact .inr (hca hm)
   | false => exact .inl (fa.none hm st qa hqa)
  obtain ⟨yb, fb⟩ := JQ E ops nb b hb hdb
  rw [fb.form, fb.behind h1 ma hqc, Option.bind_eq_some_iff] at hk
  obtain ⟨qb, hqb, hk⟩ := hk
  have mb := fb.made st qb hqb
  rw [hdb] at hk mb
  have hqcb : qb.1 = [] ∨ lJ db st := by
   cases hm : lY b.op with
   | true => exact .inr (hcb (by simp [qw, hm]))
   | false => exact .inl (fb.none hm st qb hqb)
  rw [fb.form, hqb, Option.bind_some, hdb, fa.form, fa.behind h2 mb hqcb, hqa, Option.bind_some, hda, ← afe hne]
  ·exact hk
  ·intro p hp q hq e
   have s1 := ma.site p hp
   have s2 := mb.site q hq
   simp only [Option.getD_some] at s1 s2
   rw [e, s2] at s1
   exact hne s1.symm
 ·cases h
def evI (E : Env α) (ops : Array Oper) (i : Nat) (o : Oper) (st : St) (k : St → Option α) : Option α := bif chkQ E ops i o st then lX E ops (mQ ops i) o st k else none
theorem al5 {d : Nat} {x : AV} (h : st.slots.getD d .undef = x) (hx : x ≠ .undef) : st.put (some d) x = st := by
 simp only [St.put]
 have : st.slots.set d x = st.slots := by
  apply List.ext_getElem?
  intro i
  rw [List.getElem?_set]
  split
  ·rename_i e
   subst e
   rw [List.getD_eq_getElem?_getD] at h
   cases hd : st.slots[d]? with
   | none => rw [hd] at h; exact absurd h.symm hx
   | some y =>
     rw [hd] at h
     simp only [Option.getD_some] at h
     subst h
     have := (List.getElem?_eq_some_iff.1 hd).1
     simp [this]
  ·rfl
 rw [this]
theorem alK (E : Env α) (ops : Array Oper) (ns : List Nat) (o : Oper) (st : St) (k : St → Option α) : aiD E ops ns o st k = lX E ops ns o st k := by
 unfold aiD lX xy
 cases hg : o.guard with
 | none => rfl
 | some p =>
   obtain ⟨j, want⟩ := p
   simp only
   cases hy : Qx ops j st with
   | none => simp only; cases Wq ops j st <;> rfl
   | some q =>
     obtain ⟨d, b⟩ := q
     have hs : st.slots.getD d .undef = .bool b := by
      unfold Qx at hy
      rw [Option.bind_eq_some_iff] at hy
      obtain ⟨d', hd', hy⟩ := hy
      split at hy
      ·rename_i b' hb
       simp only [Option.some.injEq, Prod.mk.injEq] at hy
       obtain ⟨rfl, rfl⟩ := hy
       exact hb
      ·cases hy
     have hp := al5 hs (by intro e; cases e)
     cases b <;> cases want <;> simp [hp]
theorem abz {E : Env α} {ops : Array Oper} {i : Nat} {oi : Oper} (hi : ops[i]? = some oi) {l : List Nat} {st : St} {k : St → Option α} : Lj E ops (i :: l) st k = evI E ops i oi st fun s => Lj E ops l s k := by
 simp only [Lj, hi, evI, alK]
theorem rX {x s : Nat} : ∀ {L : List Nat}, s ∈ rmN x L ↔ s ∈ L ∧ s ≠ x
 | [] => by simp [rmN]
 | y :: r => by
   simp only [rmN]
   cases hb : Nat.beq x y with
   | true =>
     have := aJ hb
     subst this
     rw [cond_true, rX]
     simp only [List.mem_cons]
     constructor
     ·rintro ⟨h, hne⟩; exact ⟨.inr h, hne⟩
     ·rintro ⟨h | h, hne⟩
      ·exact absurd h hne
      ·exact ⟨h, hne⟩
   | false =>
     have hne := iQ hb
     rw [cond_false]
     simp only [List.mem_cons, rX]
     constructor
     ·rintro (h | ⟨h, h2⟩)
      ·subst h; exact ⟨.inl rfl, fun e => hne e.symm⟩
      ·exact ⟨.inr h, h2⟩
     ·rintro ⟨h | h, h2⟩
      ·exact .inl h
      ·exact .inr ⟨h, h2⟩
theorem aeI {ops : Array Oper} {j s : Nat} {L : List Nat} : s ∈ JK ops j L ↔ s ∈ L ∧ (ops[j]?).bind (·.dst) ≠ some s := by
 unfold JK
 split
 ·rename_i x hx
  rw [rX, hx]
  simp only [ne_eq, Option.some.injEq]
  constructor
  ·rintro ⟨h1, h2⟩; exact ⟨h1, fun e => h2 e.symm⟩
  ·rintro ⟨h1, h2⟩; exact ⟨h1, fun e => h2 e.symm⟩
 ·rename_i hx
  rw [hx]; simp
theorem ahj {o : Op} {L L' : List Nat} (h : kK o L = true) (hs : ∀ s ∈ L, s ∈ L') : kK o L' = true := by
 unfold kK at h ⊢
 split at h
 ·rename_i t x
  split at h
  ·rename_i s
   exact qW.2 (hs _ (qW.1 h))
  ·cases h
 ·cases h
theorem agA {ops : Array Oper} {a b : Oper} {L L' : List Nat} (h : yX ops L a b = true) (hs : ∀ s ∈ L, s ∈ L') : yX ops L' a b = true := by
 unfold yX at h ⊢
 split at h
 ·split at h
  ·rename_i x hx hy
   simp only [Bool.and_eq_true, Bool.or_eq_true] at h ⊢
   refine ⟨h.1, h.2.1, ?_⟩
   rcases h.2.2 with h2 | h2
   ·exact .inl h2
   ·exact .inr (ahj h2 fun s h3 => rX.2 ⟨hs s (rX.1 h3).1, (rX.1 h3).2⟩)
  ·cases h
 ·cases h
theorem afM {l m m' : List Nat} (h : subN l m = true) (hs : ∀ s ∈ m, s ∈ m') : subN l m' = true := by
 induction l with
 | nil => rfl
 | cons x r ih =>
   simp only [subN, Bool.and_eq_true] at h ⊢
   exact ⟨qW.2 (hs x (qW.1 h.1)), ih h.2⟩
theorem afV {ops : Array Oper} {a b : Oper} {L L' : List Nat} (h : tY ops L a b = true) (hs : ∀ s ∈ L, s ∈ L') : tY ops L' a b = true := by
 unfold tY at h ⊢
 rw [Bool.and_eq_true] at h ⊢
 refine ⟨h.1, ?_⟩
 have h2 := h.2
 split at h2
 ·rename_i x y hx hy
  rw [Bool.and_eq_true] at h2
  rw [Bool.and_eq_true]
  refine ⟨h2.1, ?_⟩
  rw [Bool.or_eq_true] at h2 ⊢
  rcases h2.2 with h3 | h3
  ·exact .inl h3
  ·exact .inr (afM h3 fun s h4 => rX.2 ⟨hs s (rX.1 h4).1, (rX.1 h4).2⟩)
 ·cases h2
def evIL (E : Env α) (ops : Array Oper) (L : List Nat) (i : Nat) (o : Oper) (st : St) (k : St → Option α) : Option α := bif chkL E L o st then lX E ops (mQ ops i) o st k else none
theorem agh {E : Env α} {L : List Nat} (h : rq o.op = true) : chkL E L o st = true := by
 unfold chkL
 split
 ·rename_i hop
  simp [hop, rq, tq, lY] at h
 ·rename_i c hop
  split
  ·rename_i f hcal
   simp [hop, rq, tq, lY, hcal] at h
  ·rename_i bu hcal
   split
   ·simp [hop, rq, tq, lY, hcal] at h
   ·rfl
  ·rfl
 ·rfl
theorem aaQ {id : Nat} : ∀ {l : List Nat}, UK st id l = true → ∀ s ∈ l, ∃ j r c, st.slots.getD s .undef = .ptr j r c ∧ j ≠ id
 | [], _, s, hs => by simp at hs
 | x :: l, h, s, hs => by
   simp only [UK, Bool.and_eq_true] at h
   rcases List.mem_cons.1 hs with rfl | hs
   ·have h1 := h.1
    split at h1
    ·rename_i j r c he
     exact ⟨j, r, c, he, fun e => by subst e; simp at h1⟩
    ·cases h1
   ·exact aaQ h.2 s hs
theorem afd {id : Nat} : ∀ {l : List Nat}, (∀ s ∈ l, ∃ j r c, st.slots.getD s .undef = .ptr j r c ∧ j ≠ id) → UK st id l = true
 | [], _ => rfl
 | x :: l, h => by
   obtain ⟨j, r, c, e, hne⟩ := h x (by simp)
   have ih : UK st id l = true := afd fun s hs => h s (List.mem_cons_of_mem _ hs)
   have hb : Nat.beq j id = false := by
    cases hb : Nat.beq j id with
    | false => rfl
    | true => exact absurd (aJ hb) hne
   simp only [UK, e, ih, hb]
   rfl
theorem aeh {E : Env α} {ns : List Nat} {b : Oper} {t : TypeId} {ad v : Operand} (hop : b.op = .store t ad v) (st : St) (k : St → Option α) : CJ E ns b st k = bif BV ns (st.get v) then evOp E b st k else none := by
 unfold CJ
 rw [hop]
 rfl
theorem alH {ops : Array Oper} {i : Nat} {na : List Nat} {a b : Oper} {L : List Nat} (h : yX ops L a b = true) {st : St} (hca : lY a.op = true → lJ (kY a) st) {k : St → Option α} {da : Nat} (hda : a.dst = some da) (hk : (lX E ops na a st fun s => evIL E ops L i b s k) = some r) : (evIL E ops (rmN da L) i b st fun s => lX E ops na a s k) = some r := by
 unfold yX at h
 split at h
 ·rename_i t ad v hop
  split at h
  ·rename_i da' hda' hdb
   rw [hda] at hda'
   have hdd := Option.some.inj hda'
   subst hdd
   simp only [Bool.and_eq_true, Bool.not_eq_true'] at h
   obtain ⟨h1, ha, h2⟩ := h
   have h1 := mY h1
   simp only [List.mem_append, not_or] at h1
   obtain ⟨h1, hgt⟩ := h1
   have hops : b.op.operands.toList = [ad, v] := by rw [hop]; simp [Op.operands]
   rw [hops] at h1
   have ea : kY a = da := by simp [kY, hda]
   rw [ea] at hca
   obtain ⟨ya, fa⟩ := JQ E ops na a ha hda
   rw [fa.form, Option.bind_eq_some_iff] at hk
   obtain ⟨qa, hqa, hk⟩ := hk
   have ma := fa.made st qa hqa
   rw [hda] at hk ma
   have hqc : qa.1 = [] ∨ lJ da st := by
    cases hm : lY a.op with
    | true => exact .inr (hca hm)
    | false => exact .inl (fa.none hm st qa hqa)
   unfold evIL at hk ⊢
   have hst : mkSt st (some da) qa.1 qa.2 = St.put ⟨st.slots, jW qa.1 st.heap⟩ (some da) qa.2 := rfl
   have gad : (mkSt st (some da) qa.1 qa.2).get ad = st.get ad := by rw [hst, sW h1 (by simp), pW]
   have gv : (mkSt st (some da) qa.1 qa.2).get v = st.get v := by rw [hst, sW h1 (by simp), pW]
   have hchk : chkL E L b (mkSt st (some da) qa.1 qa.2) = true → chkL E (rmN da L) b st = true := fun hc => by
    simp only [chkL, hop] at hc ⊢
    cases hL' : rmN da L with
    | nil => rfl
    | cons s l =>
      simp only [gad] at hc ⊢
      cases hL : L with
      | nil => rw [hL] at hL'; simp [rmN] at hL'
      | cons s0 l0 =>
        rw [hL] at hc
        cases had : st.get ad with
        | ptr id r c =>
          rw [had] at hc
          simp only at hc ⊢
          refine afd fun x hx => ?_
          have hx2 : x ∈ rmN da L := by rw [hL']; exact hx
          obtain ⟨hx3, hne⟩ := rX.1 hx2
          obtain ⟨j, r', c', e, hj⟩ := aaQ hc x (by rw [← hL]; exact hx3)
          refine ⟨j, r', c', ?_, hj⟩
          rw [← e]
          simp only [mkSt, St.put, List.getD_eq_getElem?_getD, List.getElem?_set_ne (Ne.symm hne)]
        | _ => rw [had] at hc; simp at hc
   obtain ⟨hc, hk⟩ := ifB hk
   have hc := hchk hc
   rw [hc, cond_true]
   unfold lX at hk
   rw [hst, aac hgt, yZ, ← hst, Option.bind_eq_some_iff] at hk
   obtain ⟨g, hg, hk⟩ := hk
   unfold lX
   rw [hg, Option.bind_some]
   have back : ∀ s : St, ya s = some qa → lX E ops na a s k = k (mkSt s (some da) qa.1 qa.2) := fun s hs => by rw [fa.form, hs, hda]; rfl
   cases g with
   | false =>
     rw [cond_false] at hk ⊢
     rw [hdb] at hk ⊢
     show lX E ops na a st k = some r
     rw [back st hqa]
     exact hk
   | true =>
     rw [cond_true] at hk ⊢
     rw [aeh hop] at hk ⊢
     rw [gv] at hk
     obtain ⟨hv, hk⟩ := ifB hk
     rw [hv, cond_true]
     simp only [evOp, hop] at hk ⊢
     rw [gad, gv] at hk
     cases had : st.get ad with
     | ptr id row col =>
       rw [had] at hk
       simp only at hk ⊢
       have hlk : look (mkSt st (some da) qa.1 qa.2).heap id = look st.heap id := by
        show look (jW qa.1 st.heap) id = _
        rcases hqc with hqc | hqc
        ·rw [hqc]; rfl
        ·refine Dv fun p hp e => ?_
         have s1 := ma.site p hp
         have s2 := hqc.get ad
         rw [had] at s2
         simp only [AV.at] at s2
         rw [e] at s1
         simp only [Option.getD_some] at s1
         exact VJ s2 s1
       rw [hlk, Option.bind_eq_some_iff] at hk
       obtain ⟨bl, hbl, hk⟩ := hk
       rw [Option.bind_eq_some_iff] at hk
       obtain ⟨n, hn, hk⟩ := hk
       obtain ⟨hl, hk⟩ := ifB hk
       rw [Yj, Option.bind_eq_some_iff] at hk
       obtain ⟨b', hb', hk⟩ := hk
       rw [hbl, Option.bind_some, hn, Option.bind_some, hl, cond_true, Yj, hb', Option.bind_some]
       rw [hdb] at hk ⊢
       show lX E ops na a ⟨st.slots, upd st.heap id b'⟩ k = some r
       have hy : ya ⟨st.slots, upd st.heap id b'⟩ = some qa := by
        rw [← hqa]
        simp only [Bool.or_eq_true] at h2
        rcases h2 with (h2 | h2) | h2
        ·exact fa.free (by simpa using h2) st _
        ·have := ahF hb'
         exact fa.shape h2 st id bl b' hbl this.1 this.2
        ·refine fa.load _ h2 st id b' (aaQ ?_)
         simp only [chkL, hop] at hc
         cases hcs : rmN da L with
         | nil => rfl
         | cons s l =>
           rw [hcs] at hc
           simp only [had] at hc
           exact hc
       rw [back _ hy]
       have hu : upd (jW qa.1 st.heap) id b' = jW qa.1 (upd st.heap id b') := by
        refine abx (fun p hp e => ?_) (by rw [hbl]; simp)
        rcases hqc with hqc | hqc
        ·rw [hqc] at hp; simp at hp
        ·have s1 := ma.site p hp
         have s2 := hqc.get ad
         rw [had] at s2
         simp only [AV.at] at s2
         rw [← e] at s1
         simp only [Option.getD_some] at s1
         exact VJ s2 s1
       have : mkSt ⟨st.slots, upd st.heap id b'⟩ (some da) qa.1 qa.2 = ({ slots := (mkSt st (some da) qa.1 qa.2).slots, heap := upd (mkSt st (some da) qa.1 qa.2).heap id b' } : St).put none .undef := by
        simp only [mkSt, St.put, hu]
       rw [this]
       exact hk
     | _ => rw [had] at hk; simp at hk
  ·cases h
 ·cases h
theorem aij {x : Nat} {l L : List Nat} (h : subN l (rmN x L) = true) : ∀ s ∈ l, s ∈ L ∧ s ≠ x := fun s hs => by
 have : ∀ {l m : List Nat}, subN l m = true → ∀ x ∈ l, x ∈ m := by
  intro l m h
  induction l with
  | nil => simp
  | cons y r ih =>
    simp only [subN, Bool.and_eq_true] at h
    intro x hx
    rcases List.mem_cons.1 hx with rfl | hx
    ·exact qW.1 h.1
    ·exact ih h.2 x hx
 exact rX.1 (this h s hs)
theorem ady {s : Nat} : ∀ {l : List Operand}, Operand.tmp s ∈ l → s ∈ lw l
 | y :: r, h => by
   rcases List.mem_cons.1 h with rfl | h
   ·simp [lw]
   ·have := ady h
    cases y <;> simp [lw, this]
theorem ajH {ops : Array Oper} {i : Nat} {na : List Nat} {a b : Oper} {L : List Nat} (h : tY ops L a b = true) {st : St} (hca : lY a.op = true → lJ (kY a) st) (hcb : lJ (kY b) st) {k : St → Option α} {da : Nat} (hda : a.dst = some da)
 (hk : (lX E ops na a st fun s => evIL E ops L i b s k) = some r) : (evIL E ops (rmN da L) i b st fun s => lX E ops na a s k) = some r := by
 unfold tY at h
 simp only [Bool.and_eq_true] at h
 obtain ⟨⟨ha, hb⟩, h⟩ := h
 split at h
 ·rename_i da' db hda' hdb
  rw [hda] at hda'
  have hdd := Option.some.inj hda'
  subst hdd
  simp only [Bool.and_eq_true, Bool.not_eq_true'] at h
  obtain ⟨⟨hne, h1, h2⟩, hm⟩ := h
  have hne := iQ hne
  have h1 := mY h1
  have h2 := mY h2
  have ea : kY a = da := by simp [kY, hda]
  have eb : kY b = db := by simp [kY, hdb]
  rw [ea] at hca
  rw [eb] at hcb
  obtain ⟨ya, fa⟩ := JQ E ops na a ha hda
  rw [fa.form, Option.bind_eq_some_iff] at hk
  obtain ⟨qa, hqa, hk⟩ := hk
  have ma := fa.made st qa hqa
  rw [hda] at hk ma
  have hqc : qa.1 = [] ∨ lJ da st := by
   cases hmk : lY a.op with
   | true => exact .inr (hca hmk)
   | false => exact .inl (fa.none hmk st qa hqa)
  obtain ⟨c, f, hop, hcal, hops, hmk⟩ := ack hb
  rw [hops] at h1
  simp only [List.mem_append, not_or] at h1
  have hslots : (mkSt st (some da) qa.1 qa.2) = St.put ⟨st.slots, jW qa.1 st.heap⟩ (some da) qa.2 := rfl
  have gf : (mkSt st (some da) qa.1 qa.2).get f = st.get f := by
   rw [hslots, sW h1.1 (by simp), pW]
  have gmap : c.args.toList.map (mkSt st (some da) qa.1 qa.2).get = c.args.toList.map st.get := by
   refine List.map_congr_left fun x hx => ?_
   rw [hslots, sW h1.1 (by simp [hx]), pW]
  have gg : xy ops b (mkSt st (some da) qa.1 qa.2) = xy ops b st := by
   rw [hslots, aac h1.2, yZ]
  have gp : Vw E b.dst (st.get f) (c.args.toList.map st.get) (mkSt st (some da) qa.1 qa.2).heap = Vw E b.dst (st.get f) (c.args.toList.map st.get) st.heap := by
   show Vw E b.dst (st.get f) (c.args.toList.map st.get) (jW qa.1 st.heap) = _
   rcases hqc with hqc | hqc
   ·rw [hqc]; rfl
   ·refine alB (d := da) (fun id hid => Dv fun p hp e => hid (by rw [← e]; exact ma.site p hp)) (fun id b hb => (hqc.blk hb).2) (hqc.get f) fun v hv => ?_
    obtain ⟨x, _, rfl⟩ := List.mem_map.1 hv
    exact hqc.get x
  unfold evIL at hk ⊢
  obtain ⟨hc, hk⟩ := ifB hk
  have hfree : ∀ g caps ids, st.get f = .fn g caps → jX (E.M g) (c.args.toList.map st.get ++ caps) = some ids → ∀ id ∈ ids, ∀ s ∈ rmN da L, (st.slots.getD s .undef).names id = false := fun g caps ids hfe hids => by
   simp only [chkL, hop, hcal] at hc
   rw [gf, gmap, hfe] at hc
   simp only [hids] at hc
   intro id hid s hs
   obtain ⟨hs1, hs2⟩ := rX.1 hs
   have := abQ.1 hc id hid s hs1
   simpa only [mkSt, St.put, List.getD_eq_getElem?_getD, List.getElem?_set_ne (Ne.symm hs2)] using this
  have hc2 : chkL E (rmN da L) b st = true := by
   simp only [chkL, hop, hcal]
   cases hfe : st.get f with
   | fn g caps =>
     simp only
     cases hids : jX (E.M g) (c.args.toList.map st.get ++ caps) with
     | none => rfl
     | some ids => exact abQ.2 (hfree g caps ids hfe hids)
   | _ => rfl
  rw [hc2, cond_true]
  rw [acs E ops _ hop hcal, gf, gmap, gg, gp] at hk
  rw [acs E ops _ hop hcal, ← hk]
  have back2 : ∀ (h : Heap) (q : List (Nat × Blk) × AV), ya ⟨st.slots, h⟩ = ya st → lJ db ⟨st.slots, h⟩ → Zq (mQ ops i) (some db) (⟨st.slots, h⟩ : St) q → lX E ops na a (mkSt ⟨st.slots, h⟩ (some db) q.1 q.2) k = k (mkSt ⟨(mkSt st (some da) qa.1 qa.2).slots, jW qa.1 h⟩ (some db) q.1 q.2) := fun h q hy hcl mb => by
   rw [fa.form, fa.behind h2 mb (.inr hcl), hy, hqa, Option.bind_some, hda]
   show k (mkSt (mkSt ⟨st.slots, h⟩ (some db) q.1 q.2) (some da) qa.1 qa.2) = k (mkSt (mkSt ⟨st.slots, h⟩ (some da) qa.1 qa.2) (some db) q.1 q.2)
   rw [afe hne]
   intro p hp q' hq e
   have s1 := ma.site p hp
   have s2 := mb.site q' hq
   simp only [Option.getD_some] at s1 s2
   rw [e, s2] at s1
   exact hne s1.symm
  refine iW fun g => ?_
  cases g with
  | false =>
    rw [cond_false, cond_false, hdb]
    have := back2 st.heap ([], .tup []) rfl hcb ⟨by simp, by simp, fun _ _ _ _ _ => rfl⟩
    exact this
  | true =>
    rw [cond_true, cond_true]
    refine ajE fun p hp => ?_
    obtain ⟨caps, hfe, _, hids, _, _, _⟩ := afF hp
    congr 1
    funext res
    have hbi : Go.Ev.back (mkSt st (some da) qa.1 qa.2).heap p.2.2.2 res.outs = (Go.Ev.back st.heap p.2.2.2 res.outs).map (jW qa.1) := by
     show Go.Ev.back (jW qa.1 st.heap) p.2.2.2 res.outs = _
     refine ajj fun x hx id hid e => ?_
     rcases hqc with hqc | hqc
     ·rw [hqc] at hx; simp at hx
     ·obtain ⟨v, hv, hvn⟩ := ab3 hids id hid
      have hva : v.at da = false := by
       rcases List.mem_append.1 hv with hv | hv
       ·obtain ⟨y, _, rfl⟩ := List.mem_map.1 hv
        exact hqc.get y
       ·have := hqc.get f
        rw [hfe] at this
        simp only [AV.at] at this
        exact mJ.1 this v hv
      have s1 := ma.site x hx
      simp only [Option.getD_some] at s1
      have := Ez hva (j := id) (by rw [e]; exact s1)
      rw [hvn] at this
      cases this
    rw [hbi]
    cases hback : Go.Ev.back st.heap p.2.2.2 res.outs with
    | none => rfl
    | some h =>
      simp only [Option.map_some, Option.bind_some]
      have hy : ya ⟨st.slots, h⟩ = ya st := by
       rw [Bool.or_eq_true] at hm
       rcases hm with hm | hm
       ·exact fa.free hm st h
       ·refine fa.sep st h fun x hx id hid => ah5 hback id fun hin => ?_
        have hnm : (st.get x).names id = false := by
         cases x with
         | tmp s => exact hfree _ _ _ hfe hids id hin s (rX.2 (aij hm s (ady hx)))
         | const v => exact Xx v id
         | func g => simp [St.get, AV.names, AV.namesAll]
         | global g => simp [St.get, AV.names]
        rw [hnm] at hid
        cases hid
      cases hpq : ab2 p.2.2.1 (gJ b.dst) res with
      | none => rfl
      | some q =>
        simp only [Option.bind_some]
        cases hok : (BV (mQ ops i) q.2 && JJ (mQ ops i) q.1) with
        | false => rfl
        | true =>
          rw [cond_true, cond_true]
          have mb := aff (st := (⟨st.slots, h⟩ : St)) hpq hok
          rw [hdb] at mb ⊢
          exact back2 h q hy (abK hback hcb) mb
 ·cases h
def appR (E : Env α) (c : Call) (dst : Option Tmp) (args : List AV) (h : Heap) : Option (Nat × Blk) := match args with
 | [s, x] => match c.argTypes.toList with
   | [T, u] => match E.P.underlying u with
     | some (.slice _) => match E.P.underlying T with
       | some (.slice e) => (tyOf E.P e).bind fun t => bif vk E.P e then (fV E.P e).bind fun sz => bif Nat.beq sz t.w then (LY h t x).bind fun xs =>
         match s with
         | .sl id => (look h id).bind fun b => match b with
           | .rows m e' t' l => bif Nat.beq m 2 && Nat.beq e e' then (if h : t' = t then
              bif decide (l.length + xs.length ≤ big) then some (id, .rows 2 e t ((h ▸ l : List t.den) ++ xs)) else none
             else none) else none
           | _ => none
         | .sub id 0 n => (look h id).bind fun b => match b with
           | .rows m e' t' l => bif Nat.beq m 2 && Nat.beq e e' then (if h : t' = t then
              bif decide (n + xs.length ≤ big) then some (id, .rows 2 e t ((h ▸ l : List t.den).take n ++ xs)) else none
             else none) else none
           | _ => none
         | .nilsl | .emp => bif decide (xs.length ≤ big) then (bif Nat.ble E.low (gJ dst) then some (gJ dst, .rows 2 e t xs) else none) else none
         | _ => none
         else none else none
       | _ => none
     | some (.int _) => match E.P.underlying T with
       | some (.slice e) => (tyOf E.P e).bind fun t => (rQ E.P e).bind fun z => (t.dec (cellsOf z)).bind fun d => bif vk E.P e then (fV E.P e).bind fun sz => bif Nat.beq sz t.w then
         match s, x with
         | .nilsl, .int .i64 n | .emp, .int .i64 n => bif decide (1 ≤ n) && decide (n ≤ (big : Int)) then (bif Nat.ble E.low (gJ dst) then some (gJ dst, .rows 2 e t (List.replicate n.toNat d)) else none) else none
         | _, _ => none
         else none else none
       | _ => none
     | _ => none
   | _ => none
 | _ => none
theorem ahS {b : Oper} (h : abM b.op = true) : ∃ c, b.op = .call c ∧ c.callee = .builtin .append ∧ b.op.operands.toList = c.args.toList := by
 unfold abM at h
 split at h
 ·rename_i c hop
  split at h
  ·rename_i bu hcal
   split at h
   ·exact ⟨c, hop, hcal, by rw [hop]; simp [Op.operands, Call.operands, hcal]⟩
   ·cases h
  ·cases h
 ·cases h
theorem agZ (E : Env α) {o : Oper} {c : Call} (hop : o.op = .call c) (hcal : c.callee = .builtin .append) (st : St) (k : St → Option α) : evOp E o st k = (appR E c o.dst (c.args.toList.map st.get) st.heap).bind fun q => k ((st.fresh q.1 q.2).put o.dst (.sl q.1)) := by
 simp only [evOp, hop, hcal, Jz]
 cases hl : c.args.toList.map st.get with
 | nil => rfl
 | cons s l => cases l with
   | nil => rfl
   | cons x l => cases l with
     | cons => rfl
     | nil =>
       simp only [appR]
       cases hts : c.argTypes.toList with
       | nil => rfl
       | cons T l => cases l with
         | nil => rfl
         | cons u l => cases l with
           | cons => rfl
           | nil =>
             simp only
             cases hu : E.P.underlying u with
             | none => rfl
             | some du => cases du with
               | slice e' =>
                 simp only [abZ]
                 cases hT : E.P.underlying T with
                 | none => rfl
                 | some dT => cases dT with
                   | slice e =>
                     simp only [Option.bind_assoc]
                     refine iW fun t => ?_
                     rw [dX]
                     cases vk E.P e with
                     | false => rfl
                     | true =>
                       simp only [cond_true, Option.bind_assoc]
                       refine iW fun sz => ?_
                       rw [dX]
                       cases Nat.beq sz t.w with
                       | false => rfl
                       | true =>
                         simp only [cond_true, Option.bind_assoc]
                         refine iW fun xs => ?_
                         cases s with
                         | sl id =>
                           simp only [Option.bind_assoc]
                           refine iW fun b => ?_
                           cases b with
                           | map => first | rfl | (cases h; done) | (simp at h; done) | (simp at *; done)
                           | bld => first | rfl | (cases h; done) | (simp at h; done) | (simp at *; done)
                           | mix => rfl
                           | rows m e' t' l =>
                             simp only [dX]
                             split <;> first | rfl | (simp only [dX]; rfl)
                         | sub id lo n =>
                           cases lo with
                           | succ => rfl
                           | zero =>
                             simp only [Option.bind_assoc]
                             refine iW fun b => ?_
                             cases b with
                             | map => first | rfl | (cases h; done) | (simp at h; done) | (simp at *; done)
                             | bld => first | rfl | (cases h; done) | (simp at h; done) | (simp at *; done)
                             | mix => rfl
                             | rows m e' t' l =>
                               simp only [dX]
                               split <;> first | rfl | (simp only [dX]; rfl)
                         | nilsl => simp only [dX, tJ]; rfl
                         | emp => simp only [dX, tJ]; rfl
                         | _ => rfl
                   | _ => rfl
               | int ik =>
                 simp only [aaF]
                 cases hT : E.P.underlying T with
                 | none => rfl
                 | some dT => cases dT with
                   | slice e =>
                     simp only [Option.bind_assoc]
                     refine iW fun t => ?_
                     refine iW fun z => ?_
                     refine iW fun d => ?_
                     rw [dX]
                     cases vk E.P e with
                     | false => rfl
                     | true =>
                       simp only [cond_true, Option.bind_assoc]
                       refine iW fun sz => ?_
                       rw [dX]
                       cases Nat.beq sz t.w with
                       | false => rfl
                       | true =>
                         simp only [cond_true]
                         split
                         ·simp only [dX, tJ]; rfl
                         ·simp only [dX, tJ]; rfl
                         ·rename_i hno1 hno2
                          split
                          ·exact absurd rfl (hno1 _ rfl)
                          ·exact absurd rfl (hno2 _ rfl)
                          ·rfl
                   | _ => rfl
               | _ => rfl
theorem an9 {E : Env α} {c : Call} {dst : Option Tmp} {s : AV} {l : List AV} {h : Heap} {q : Nat × Blk} (hq : appR E c dst (s :: l) h = some q) : q.1 = aiH dst s := by
 cases l with
 | nil => cases hq
 | cons x l => cases l with
   | cons => cases hq
   | nil =>
     simp only [appR] at hq
     split at hq
     ·split at hq
      ·split at hq
       ·rw [Option.bind_eq_some_iff] at hq
        obtain ⟨t, _, hq⟩ := hq
        obtain ⟨_, hq⟩ := ifB hq
        rw [Option.bind_eq_some_iff] at hq
        obtain ⟨sz, _, hq⟩ := hq
        obtain ⟨_, hq⟩ := ifB hq
        rw [Option.bind_eq_some_iff] at hq
        obtain ⟨xs, _, hq⟩ := hq
        cases s with
        | sl id =>
          simp only at hq
          rw [Option.bind_eq_some_iff] at hq
          obtain ⟨b, _, hq⟩ := hq
          cases b with
          | map => first | rfl | (cases h; done) | (simp at h; done) | (simp at *; done)
          | bld => first | rfl | (cases h; done) | (simp at h; done) | (simp at *; done)
          | mix => cases hq
          | rows m e' t' l =>
            simp only at hq
            obtain ⟨_, hq⟩ := ifB hq
            split at hq
            ·obtain ⟨_, hq⟩ := ifB hq
             cases hq
             rfl
            ·cases hq
        | sub id lo n =>
          cases lo with
          | succ => cases hq
          | zero =>
            simp only at hq
            rw [Option.bind_eq_some_iff] at hq
            obtain ⟨b, _, hq⟩ := hq
            cases b with
            | map => first | rfl | (cases h; done) | (simp at h; done) | (simp at *; done)
            | bld => first | rfl | (cases h; done) | (simp at h; done) | (simp at *; done)
            | mix => cases hq
            | rows m e' t' l =>
              simp only at hq
              obtain ⟨_, hq⟩ := ifB hq
              split at hq
              ·obtain ⟨_, hq⟩ := ifB hq
               cases hq
               rfl
              ·cases hq
        | nilsl =>
          simp only at hq
          obtain ⟨_, hq⟩ := ifB hq
          obtain ⟨_, hq⟩ := ifB hq
          cases hq
          rfl
        | emp =>
          simp only at hq
          obtain ⟨_, hq⟩ := ifB hq
          obtain ⟨_, hq⟩ := ifB hq
          cases hq
          rfl
        | _ => cases hq
       ·cases hq
      ·split at hq
       ·rw [Option.bind_eq_some_iff] at hq
        obtain ⟨t, _, hq⟩ := hq
        rw [Option.bind_eq_some_iff] at hq
        obtain ⟨z, _, hq⟩ := hq
        rw [Option.bind_eq_some_iff] at hq
        obtain ⟨d, _, hq⟩ := hq
        obtain ⟨_, hq⟩ := ifB hq
        rw [Option.bind_eq_some_iff] at hq
        obtain ⟨sz, _, hq⟩ := hq
        obtain ⟨_, hq⟩ := ifB hq
        split at hq
        ·obtain ⟨_, hq⟩ := ifB hq
         obtain ⟨_, hq⟩ := ifB hq
         cases hq
         rfl
        ·obtain ⟨_, hq⟩ := ifB hq
         obtain ⟨_, hq⟩ := ifB hq
         cases hq
         rfl
        ·cases hq
       ·cases hq
      ·cases hq
     ·cases hq
theorem aql {E : Env α} {ns : List Nat} {o : Oper} (h : abM o.op = true) (k : St → Option α) : CJ E ns o st k = match ns with
 | [] => evOp E o st k
 | _ :: _ => none := by
 obtain ⟨c, hop, hcal, _⟩ := ahS h
 have h1 : lY o.op = false := by rw [hop]; rfl
 have h2 : tq o.op = false := by rw [hop]; simp [tq, hcal]
 have h3 : Dy o.op = false := by rw [hop]; simp [Dy, hcal]
 unfold CJ
 rw [h1, h2, h3, cond_false, cond_false, cond_false, hop]
 cases ns <;> rfl
theorem agO {ops : Array Oper} {a b : Oper} {L L' : List Nat} (h : yK ops L a b = true) (hs : ∀ s ∈ L, s ∈ L') : yK ops L' a b = true := by
 unfold yK at h ⊢
 rw [Bool.and_eq_true] at h ⊢
 refine ⟨h.1, ?_⟩
 have h2 := h.2
 split at h2
 ·rename_i x y hx hy
  simp only [Bool.and_eq_true] at h2 ⊢
  exact ⟨h2.1, qW.2 (hs x (qW.1 h2.2.1)), afM h2.2.2 fun s h4 => rX.2 ⟨hs s (rX.1 h4).1, (rX.1 h4).2⟩⟩
 ·cases h2
theorem ak6 {ops : Array Oper} {i : Nat} {na : List Nat} {a b : Oper} {L : List Nat} (h : yK ops L a b = true) {st : St} {k : St → Option α} {da : Nat} (hda : a.dst = some da)
 (hk : (lX E ops na a st fun s => evIL E ops L i b s k) = some r) : (evIL E ops (rmN da L) i b st fun s => lX E ops na a s k) = some r := by
 unfold yK at h
 simp only [Bool.and_eq_true] at h
 obtain ⟨⟨hv, hms, hap⟩, h⟩ := h
 split at h
 ·rename_i da' db hda' hdb
  rw [hda] at hda'
  have hdd := Option.some.inj hda'
  subst hdd
  simp only [Bool.and_eq_true, Bool.not_eq_true'] at h
  obtain ⟨⟨hne, h1, h2⟩, hdL, hoL⟩ := h
  have hne := iQ hne
  have h1 := mY h1
  have h2 := mY h2
  have hdL := qW.1 hdL
  have ha : rq a.op = true := by simp [rq, hv]
  obtain ⟨ya, fa⟩ := JQ E ops na a ha hda
  rw [fa.form, Option.bind_eq_some_iff] at hk
  obtain ⟨qa, hqa, hk⟩ := hk
  have hq0 := fa.none (Ux hv) st qa hqa
  have e1 : mkSt st a.dst qa.1 qa.2 = st.put (some da) qa.2 := by
   unfold mkSt
   rw [hq0, hda]
   rfl
  have e2 : ∀ s : St, mkSt s a.dst qa.1 qa.2 = s.put (some da) qa.2 := fun s => by
   unfold mkSt
   rw [hq0, hda]
   rfl
  rw [e1] at hk
  obtain ⟨c, hop, hcal, hops⟩ := ahS hap
  rw [hops] at h1
  simp only [List.mem_append, not_or] at h1
  have gmap : c.args.toList.map (st.put (some da) qa.2).get = c.args.toList.map st.get :=
   List.map_congr_left fun x hx => sW h1.1 hx
  have gg : xy ops b (st.put (some da) qa.2) = xy ops b st := aac h1.2
  unfold evIL at hk ⊢
  obtain ⟨hc, hk⟩ := ifB hk
  have hfree : ∀ s0 l0, c.args.toList = s0 :: l0 → ∀ s ∈ L, ((st.put (some da) qa.2).slots.getD s .undef).names (aiH b.dst (st.get s0)) = false := fun s0 l0 hl => by
   simp only [chkL, hop, hcal, hl] at hc
   have hs0 : (st.put (some da) qa.2).get s0 = st.get s0 := sW h1.1 (by rw [hl]; simp)
   rw [hs0] at hc
   exact WZ.1 hc
  have other : ∀ s, s ≠ da → (st.put (some da) qa.2).slots.getD s .undef = st.slots.getD s .undef := fun s hs => by
   simp only [St.put, List.getD_eq_getElem?_getD, List.getElem?_set_ne (Ne.symm hs)]
  have hc2 : chkL E (rmN da L) b st = true := by
   simp only [chkL, hop, hcal]
   cases hl : c.args.toList with
   | nil => rfl
   | cons s0 l0 =>
     refine WZ.2 fun s hs => ?_
     obtain ⟨hs1, hs2⟩ := rX.1 hs
     have := hfree s0 l0 hl s hs1
     rwa [other s hs2] at this
  rw [hc2, cond_true]
  unfold lX at hk ⊢
  rw [gg, Option.bind_eq_some_iff] at hk
  obtain ⟨g, hg, hk⟩ := hk
  rw [hg, Option.bind_some]
  cases g with
  | false =>
    rw [cond_false, hdb] at hk ⊢
    show lX E ops na a (st.put (some db) (.tup [])) k = some r
    rw [fa.form, fa.slot st db _ h2, hqa, Option.bind_some, e2, af6 (Ne.symm hne)]
    exact hk
  | true =>
    rw [cond_true, aql hap] at hk ⊢
    cases hns : mQ ops i with
    | cons => rw [hns] at hk; simp at hk
    | nil =>
      rw [hns] at hk
      simp only at hk ⊢
      rw [agZ E hop hcal, gmap] at hk
      rw [agZ E hop hcal]
      rw [Option.bind_eq_some_iff] at hk ⊢
      obtain ⟨q, hq, hk⟩ := hk
      refine ⟨q, hq, ?_⟩
      cases hl : c.args.toList with
      | nil => rw [hl] at hq; cases hq
      | cons s0 l0 =>
        rw [hl, List.map_cons] at hq
        have hid := an9 hq
        have hfr := hfree s0 l0 hl
        rw [← hid] at hfr
        have hnm : ∀ x ∈ a.op.operands.toList, (st.get x).names q.1 = false := fun x hx => by
         cases x with
         | tmp s =>
           obtain ⟨k1, k2⟩ := aij hoL s (ady hx)
           have := hfr s k1
           rwa [other s k2] at this
         | const v => exact Xx v _
         | func g => simp [St.get, AV.names, AV.namesAll]
         | global g => simp [St.get, AV.names]
        have hya : ya (st.fresh q.1 q.2) = ya st := fa.kill hv hms st q.1 _ hnm fun j hj β f hf => by
         have := qJ st q.1 q.2 j
         rw [if_neg hj] at this
         show (look (st.fresh q.1 q.2).heap j).bind f = _
         rw [this]
         cases look st.heap j with
         | none => rfl
         | some bl =>
           simp only [Option.map_some, Option.bind_some]
           refine hf _ _ ?_ ?_
           ·cases bl <;> rfl
           ·cases bl <;> simp [qQ, Blk.n]
        show lX E ops na a ((st.fresh q.1 q.2).put b.dst (.sl q.1)) k = some r
        rw [hdb] at hk ⊢
        rw [fa.form, fa.slot _ db _ h2, hya, hqa, Option.bind_some, e2, af6 (Ne.symm hne), ← hk]
        congr 2
        simp only [St.put, St.fresh, List.map_set]
        congr 1
        by_cases hlt : da < st.slots.length
        ·have := hfr da hdL
         simp only [St.put, List.getD_eq_getElem?_getD, List.getElem?_set_self hlt, Option.getD_some] at this
         rw [QV this]
        ·have hge : st.slots.length ≤ da := by omega
         rw [List.set_eq_of_length_le (by simpa using hge), List.set_eq_of_length_le (by simpa using hge)]
 ·cases h
theorem ajg {ops : Array Oper} {L : List Nat} {a b : Oper} (h : (Gz ops a b || yX ops L a b || tY ops L a b || yK ops L a b) = true) : rq a.op = true ∧ ∃ d, a.dst = some d := by
 rw [Bool.or_eq_true, Bool.or_eq_true, Bool.or_eq_true] at h
 rcases h with ((h | h) | h) | h
 ·simp only [Gz, Bool.and_eq_true] at h
  refine ⟨h.1.1, ?_⟩
  have h2 := h.2
  split at h2
  ·rename_i x y hx hy
   exact ⟨x, hx⟩
  ·cases h2
 ·unfold yX at h
  split at h
  ·split at h
   ·rename_i x hx _
    simp only [Bool.and_eq_true] at h
    exact ⟨h.2.1, x, hx⟩
   ·cases h
  ·cases h
 ·simp only [tY, Bool.and_eq_true] at h
  refine ⟨h.1.1, ?_⟩
  have h2 := h.2
  split at h2
  ·rename_i x y hx hy
   exact ⟨x, hx⟩
  ·cases h2
 ·simp only [yK, Bool.and_eq_true] at h
  refine ⟨by simp [rq, h.1.1], ?_⟩
  have h2 := h.2
  split at h2
  ·rename_i x y hx hy
   exact ⟨x, hx⟩
  ·cases h2
theorem agz {ops : Array Oper} {a b : Oper} (h : Gz ops a b = true) : rq b.op = true := by
 simp only [Gz, Bool.and_eq_true] at h
 exact h.1.2
def Inv (ops : Array Oper) (l : List Nat) (st : St) : Prop := ∀ i ∈ l, ∀ o, ops[i]? = some o → qw o.op = true → lJ (kY o) st
theorem XK {ops : Array Oper} {o oj : Oper} {j : Nat} (h : uX ops o j = true) (hm : qw o.op = true) (hj : ops[j]? = some oj) : kY o ∈ mQ ops j ∧ kY o ≠ oj.dst.getD 0 := by
 simp only [uX, hm, Bool.not_true, Bool.false_or, Bool.and_eq_true, hj] at h
 exact ⟨qW.1 h.1, iQ (show Nat.beq (kY o) (kY oj) = false by simpa using h.2)⟩
theorem Inv.made {ops : Array Oper} {l : List Nat} {j : Nat} {oj : Oper} (h : Inv ops l st) (hj : ops[j]? = some oj) (hs : ∀ m ∈ l, ∀ om, ops[m]? = some om → uX ops om j = true) {q : List (Nat × Blk) × AV} (hq : Zq (mQ ops j) oj.dst st q) : Inv ops l (mkSt st oj.dst q.1 q.2) := by
 intro i hi o ho hm
 obtain ⟨h1, h2⟩ := XK (hs i hi o ho) hm hj
 exact hq.clean h1 h2 (h i hi o ho hm)
theorem aio {id : Nat} {b : Blk} {p : Nat × Blk} : ∀ {h : Heap}, p ∈ upd h id b → p = (id, b) ∨ p ∈ h
 | [], h => by simpa [upd] using h
 | (j, c) :: r, h => by
   simp only [upd] at h
   cases hb : Nat.beq j id with
   | true =>
     rw [hb, cond_true] at h
     rcases List.mem_cons.1 h with h | h
     ·exact .inl h
     ·exact .inr (by simp [h])
   | false =>
     rw [hb, cond_false] at h
     rcases List.mem_cons.1 h with h | h
     ·exact .inr (by simp [h])
     ·rcases aio h with h | h
      ·exact .inl h
      ·exact .inr (by simp [h])
theorem aez {x : AV} : ∀ {vs l : List AV} {i : Nat}, x ∈ ny l i vs → x ∈ l ∨ x ∈ vs
 | [], l, i, h => .inl h
 | v :: vs, l, i, h => by
   simp only [ny] at h
   rcases aez h with h | h
   ·rcases List.mem_or_eq_of_mem_set h with h | h
    ·exact .inl h
    ·exact .inr (by simp [h])
   ·exact .inr (by simp [h])
theorem alD {b b' : Blk} {row col : Nat} {vs : List AV} {d : Nat} (h : b.write row col vs some = some b') (hb : b.at d = false) (hv : ∀ v ∈ vs, v.at d = false) : b'.at d = false := by
 cases b with
 | map => first | rfl | (cases h; done) | (simp at h; done) | (simp at *; done)
 | bld e eb t =>
   obtain ⟨_, _, _, h⟩ := afB h
   have := Option.some.inj h
   subst this
   rfl
 | mix m e l =>
   unfold Blk.write at h
   cases hc : (Nat.beq (Blk.mix m e l).mode 0 && !(Blk.mix m e l).isBld || !gz vs) with
   | true => rw [hc, cond_true] at h; cases h
   | false =>
     rw [hc, cond_false] at h
     simp only at h
     obtain ⟨_, h⟩ := ifB h
     have := Option.some.inj h
     subst this
     simp only [Blk.at] at hb ⊢
     rw [mJ] at hb ⊢
     intro x hx
     rcases aez hx with hx | hx
     ·exact hb x hx
     ·exact hv x hx
 | rows m e t l =>
   have : ∃ l', b' = .rows m e t l' := by
    unfold Blk.write at h
    cases hc : (Nat.beq (Blk.rows m e t l).mode 0 && !(Blk.rows m e t l).isBld || !gz vs) with
    | true => rw [hc, cond_true] at h; cases h
    | false =>
      rw [hc, cond_false] at h
      simp only at h
      cases hw : Nat.beq t.w 1 with
      | true =>
        rw [hw, cond_true] at h
        obtain ⟨_, h⟩ := ifB h
        rw [Dk, Option.bind_eq_some_iff] at h
        obtain ⟨l', _, h⟩ := h
        exact ⟨l', (Option.some.inj h).symm⟩
      | false =>
        rw [hw, cond_false] at h
        obtain ⟨_, h⟩ := ifB h
        rw [Option.bind_eq_some_iff] at h
        obtain ⟨x, _, h⟩ := h
        rw [Option.bind_eq_some_iff] at h
        obtain ⟨y, _, h⟩ := h
        exact ⟨_, (Option.some.inj h).symm⟩
   obtain ⟨l', rfl⟩ := this
   rfl
theorem aiT {x : AV} {d : Nat} (h : x.at d = false) : ∀ v ∈ cellsOf x, v.at d = false := by
 cases x with
 | agg l => simp only [AV.at] at h; exact mJ.1 h
 | _ => intro v hv; simp only [cellsOf, List.mem_singleton] at hv; subst hv; exact h
open Classical in
theorem ajA {E : Env α} {ops : Array Oper} {L : List Nat} {i : Nat} {oi : Oper} (hi : ops[i]? = some oi) {l : List Nat} {st : St} (hinv : Inv ops l st) (hs : ∀ m ∈ l, ∀ om, ops[m]? = some om → uX ops om i = true) {k : St → Option α} (hk : evIL E ops L i oi st k = some r) : evIL E ops L i oi st (fun s => if Inv ops l s then k s else none) = some r := by
 unfold evIL at hk ⊢
 obtain ⟨hc, hk⟩ := ifB hk
 rw [hc, cond_true]
 have void : Inv ops l (st.put oi.dst (.tup [])) := hinv.made (q := ([], .tup [])) hi hs ⟨by simp, by simp, fun _ _ _ _ _ => rfl⟩
 cases hp : rq oi.op with
 | true =>
   cases hd : oi.dst with
   | some dd =>
     obtain ⟨y, fy⟩ := JQ E ops (mQ ops i) oi hp hd
     rw [fy.form, Option.bind_eq_some_iff] at hk
     obtain ⟨q, hq, hk⟩ := hk
     have := hinv.made hi hs (fy.made st q hq)
     rw [fy.form, hq, Option.bind_some, if_pos this]
     exact hk
   | none =>
     unfold lX at hk ⊢
     rw [Option.bind_eq_some_iff] at hk
     obtain ⟨g, hg, hk⟩ := hk
     rw [hg, Option.bind_some]
     cases g with
     | false =>
       rw [cond_false] at hk ⊢
       show (if Inv ops l (st.put oi.dst (.tup [])) then k (st.put oi.dst (.tup [])) else none) = some r
       rw [if_pos void]
       exact hk
     | true =>
       rw [cond_true] at hk ⊢
       cases hm : lY oi.op with
       | true =>
         simp only [CJ, hm, cond_true] at hk ⊢
         rw [Option.bind_eq_some_iff] at hk
         obtain ⟨q, hq, hk⟩ := hk
         obtain ⟨ho, hk⟩ := ifB hk
         have := hinv.made (q := ([(gJ oi.dst, q.1)], q.2)) hi hs ⟨fun p hp => by
          simp only [List.mem_singleton] at hp
          subst hp
          unfold gJ
          simp, YX.1 (Bool.and_eq_true _ _ ▸ ho).2, fun d hd' e _ _ => Iw.1 (Bool.and_eq_true _ _ ▸ ho).1 d hd'⟩
         rw [hq, Option.bind_some, ho, cond_true, if_pos this]
         exact hk
       | false =>
         have hv : tq oi.op = true := by
          simp only [rq, hm, Bool.or_false] at hp
          exact hp
         rw [afG hv] at hk ⊢
         obtain ⟨y, ey, _⟩ := ahb E oi hv
         rw [ey, Option.bind_eq_some_iff] at hk
         obtain ⟨x, hx, hk⟩ := hk
         obtain ⟨ho, hk⟩ := ifB hk
         rw [ey, hx, Option.bind_some, ho, cond_true]
         have : Inv ops l (st.put oi.dst x) := by rw [hd]; exact hinv
         rw [if_pos this]
         exact hk
 | false =>
   cases hcv : Dy oi.op with
   | true =>
     obtain ⟨c, f, hop, hcal, _, _⟩ := ack hcv
     rw [acs E ops _ hop hcal] at hk ⊢
     rw [← hk]
     refine iW fun g => ?_
     cases g with
     | false => rw [cond_false, cond_false, if_pos void]
     | true =>
       rw [cond_true, cond_true]
       refine iW fun p => ?_
       congr 1
       funext res
       cases hback : Go.Ev.back st.heap p.2.2.2 res.outs with
       | none => rfl
       | some h =>
         simp only [Option.bind_some]
         cases hpq : ab2 p.2.2.1 (gJ oi.dst) res with
         | none => rfl
         | some q =>
           simp only [Option.bind_some]
           cases hok : (BV (mQ ops i) q.2 && JJ (mQ ops i) q.1) with
           | false => rfl
           | true =>
             have hinv2 : Inv ops l (⟨st.slots, h⟩ : St) := fun m hml om hom hmk => abK hback (hinv m hml om hom hmk)
             rw [cond_true, cond_true, if_pos (hinv2.made hi hs (aff (st := (⟨st.slots, h⟩ : St)) hpq hok))]
   | false =>
     unfold lX at hk ⊢
     rw [Option.bind_eq_some_iff] at hk
     obtain ⟨g, hg, hk⟩ := hk
     rw [hg, Option.bind_some]
     cases g with
     | false =>
       rw [cond_false] at hk ⊢
       show (if Inv ops l (st.put oi.dst (.tup [])) then k (st.put oi.dst (.tup [])) else none) = some r
       rw [if_pos void]
       exact hk
     | true =>
       rw [cond_true] at hk ⊢
       have hm : lY oi.op = false := by
        simp only [rq, Bool.or_eq_false_iff] at hp
        exact hp.2
       have hv : tq oi.op = false := by
        simp only [rq, Bool.or_eq_false_iff] at hp
        exact hp.1
       cases hop : oi.op with
       | store t ad v =>
         rw [aeh hop] at hk ⊢
         obtain ⟨ho, hk⟩ := ifB hk
         rw [ho, cond_true]
         simp only [evOp, hop] at hk ⊢
         cases had : st.get ad with
         | ptr id row col =>
           rw [had] at hk
           simp only at hk ⊢
           rw [Option.bind_eq_some_iff] at hk
           obtain ⟨bl, hbl, hk⟩ := hk
           rw [Option.bind_eq_some_iff] at hk
           obtain ⟨n, hn, hk⟩ := hk
           obtain ⟨hl, hk⟩ := ifB hk
           rw [Yj, Option.bind_eq_some_iff] at hk
           obtain ⟨b', hb', hk⟩ := hk
           rw [hbl, Option.bind_some, hn, Option.bind_some, hl, cond_true, Yj, hb', Option.bind_some]
           rw [if_pos]
           ·exact hk
           ·intro m hml om hom hmk
            obtain ⟨h1, h2⟩ := XK (hs m hml om hom) hmk hi
            have hcl := hinv m hml om hom hmk
            have hx := Iw.1 ho _ h1
            constructor
            ·cases hd : oi.dst with
             | none => exact hcl.1
             | some dd => exact afo (st := ⟨st.slots, upd st.heap id b'⟩) hcl.1 fun _ => rfl
            ·have : (St.put ⟨st.slots, upd st.heap id b'⟩ oi.dst .undef).heap = upd st.heap id b' := by cases oi.dst <;> rfl
             rw [this, tV]
             intro p hpm
             rcases aio hpm with rfl | hpm
             ·exact ⟨(hcl.blk hbl).1, alD hb' (hcl.blk hbl).2 (aiT hx)⟩
             ·exact tV.1 hcl.2 p hpm
         | _ => rw [had] at hk; simp at hk
       | _ =>
         simp only [CJ, hm, hv, hcv, cond_false] at hk ⊢
         rw [hop] at hk
         simp only [hop] at hk ⊢
         cases hns : mQ ops i with
         | cons => rw [hns] at hk; simp at hk
         | nil =>
           rw [hns] at hk
           simp only at hk ⊢
           have triv : ∀ s, Inv ops l s := fun s m hml om hom hmk => by
            obtain ⟨h1, _⟩ := XK (hs m hml om hom) hmk hi
            rw [hns] at h1
            simp at h1
           have : (fun s => if Inv ops l s then k s else none) = k := by
            funext s
            rw [if_pos (triv s)]
           rw [this]
           exact hk
def acG (ops : Array Oper) (S : Nat → Prop) : Prop := ∀ m om, S m → ops[m]? = some om → ∀ e ∈ zW om.after.toList, S e
theorem ajF {l : List Nat} : ∀ {as : List Nat} {x : Nat}, x ∈ acS as l ↔ x ∈ as ∨ x ∈ l := by
 intro as
 induction as generalizing l with
 | nil => intro x; simp [acS]
 | cons a r ih =>
   intro x
   simp only [acS]
   cases h : memN a l with
   | true =>
     have := qW.1 h
     rw [cond_true, ih]
     constructor
     ·rintro (h | h) <;> simp [h]
     ·rintro (h | h)
      ·rcases List.mem_cons.1 h with rfl | h
       ·exact .inr this
       ·exact .inl h
      ·exact .inr h
   | false =>
     rw [cond_false, ih]
     simp only [List.mem_cons]
     constructor
     ·rintro (h | h | h) <;> simp [h]
     ·rintro ((h | h) | h) <;> simp [h]
theorem XJ {ops : Array Oper} {t : List (Nat × List Nat)} (ht : ∀ m x, x ∈ WQ t m → ∀ S, acG ops S → S m → S x) : ∀ {ds : List Nat} {x : Nat}, x ∈ PK t ds → ∀ S, acG ops S → (∀ e ∈ ds, S e) → S x
 | [], x, h, _, _, _ => by simp [PK] at h
 | e :: r, x, h, S, hS, hd => by
   simp only [PK, ajF, List.mem_cons] at h
   rcases h with (rfl | h) | h
   ·exact hd _ (by simp)
   ·exact ht e x h S hS (hd e (by simp))
   ·exact XJ ht h S hS fun e he => hd e (by simp [he])
def zY (ops : Array Oper) : List Nat → List Nat → List Nat
 | L, [] => L
 | L, j :: r => zY ops (JK ops j L) r
theorem acC {ops : Array Oper} {s : Nat} : ∀ {B L : List Nat}, s ∈ zY ops L B ↔ s ∈ L ∧ ∀ m ∈ B, (ops[m]?).bind (·.dst) ≠ some s
 | [], L => by simp [zY]
 | j :: r, L => by
   simp only [zY, acC, aeI, List.mem_cons, forall_eq_or_imp]
   constructor
   ·rintro ⟨⟨h1, h2⟩, h3⟩; exact ⟨h1, h2, h3⟩
   ·rintro ⟨h1, h2, h3⟩; exact ⟨⟨h1, h2⟩, h3⟩
structure af1 (ops : Array Oper) (a : List Nat) (i : Nat) : Prop where
 ex : ∃ o, ops[i]? = some o ∧ (∀ e ∈ zW o.after.toList, e ∈ a) ∧ i ∉ a ∧
  ∀ B j A, a = B ++ j :: A → uX ops o j = true ∧ ((∀ S, acG ops S → (∀ e ∈ zW o.after.toList, S e) → S j) ∨ ∃ oj, ops[j]? = some oj ∧ (Gz ops oj o || yX ops (zY ops (LQ ops i) B) oj o || tY ops (zY ops (LQ ops i) B) oj o || yK ops (zY ops (LQ ops i) B) oj o) = true ∧ uX ops oj i = true)
theorem akS {l m : List Nat} (h : subN l m = true) : ∀ x ∈ l, x ∈ m := by
 induction l with
 | nil => simp
 | cons a r ih =>
   simp only [subN, Bool.and_eq_true] at h
   intro x hx
   rcases List.mem_cons.1 hx with rfl | hx
   ·exact qW.1 h.1
   ·exact ih h.2 x hx
theorem acI {ops : Array Oper} {i : Nat} {o : Oper} {w : List Nat} : ∀ {done L : List Nat}, LW.pairsOK ops i o w L done = true → ∀ B j A, done = B ++ j :: A → uX ops o j = true ∧ (j ∈ w ∨ ∃ oj, ops[j]? = some oj ∧ (Gz ops oj o || yX ops (zY ops L B) oj o || tY ops (zY ops L B) oj o || yK ops (zY ops L B) oj o) = true ∧ uX ops oj i = true)
 | [], L, _, B, j, A, e => by simp at e
 | x :: r, L, h, B, j, A, e => by
   simp only [LW.pairsOK, Bool.and_eq_true] at h
   obtain ⟨⟨h0, h1⟩, h2⟩ := h
   cases B with
   | nil =>
     simp only [List.nil_append, List.cons.injEq] at e
     obtain ⟨rfl, rfl⟩ := e
     refine ⟨h0, ?_⟩
     rw [Bool.or_eq_true] at h1
     rcases h1 with h1 | h1
     ·exact .inl (qW.1 h1)
     ·split at h1
      ·rename_i oj ho
       rw [Bool.and_eq_true] at h1
       exact .inr ⟨oj, ho, h1⟩
      ·cases h1
   | cons y B =>
     simp only [List.cons_append, List.cons.injEq] at e
     obtain ⟨rfl, e⟩ := e
     exact acI h2 B j A e
theorem aet {l : List Nat} : ∀ {n : Nat}, LW.allIn n l = true → ∀ m < n, m ∈ l
 | 0, _, m, h => by omega
 | n + 1, h, m, hm => by
   simp only [LW.allIn, Bool.and_eq_true] at h
   by_cases e : m = n
   ·subst e; exact qW.1 h.1
   ·exact aet h.2 m (by omega)
theorem ahe {ops : Array Oper} : ∀ {l : List Nat} {t : List (Nat × List Nat)} {done : List Nat}, LW ops l t done = true → (∀ m x, x ∈ WQ t m → ∀ S, acG ops S → S m → S x) →
 (∀ a i b, l = a ++ i :: b → af1 ops (a.reverse ++ done) i) ∧ ∀ m < ops.size, m ∈ done ∨ m ∈ l
 | [], t, done, h, _ => by
   simp only [LW] at h
   exact ⟨fun a i b e => by simp at e, fun m hm => .inl (aet h m hm)⟩
 | i :: l, t, done, h, ht => by
   simp only [LW] at h
   split at h
   ·rename_i o ho
    simp only [Bool.and_eq_true] at h
    obtain ⟨hr, hp, h⟩ := h
    simp only [aeA, ho, Bool.and_eq_true, Bool.not_eq_true'] at hr
    have hnot := mY hr.1
    have hdeps := akS hr.2
    obtain ⟨k1, k2⟩ := ahe h (fun m x hx S hS hm => by
     simp only [WQ] at hx
     cases hb : Nat.beq i m with
     | true =>
       rw [hb, cond_true] at hx
       have := aJ hb
       subst this
       exact XJ ht hx S hS (hS i o hm ho)
     | false =>
       rw [hb, cond_false] at hx
       exact ht m x hx S hS hm)
    refine ⟨fun a j b e => ?_, fun m hm => ?_⟩
    ·cases a with
     | nil =>
       simp only [List.nil_append, List.cons.injEq] at e
       obtain ⟨rfl, rfl⟩ := e
       refine ⟨o, ho, by simpa using hdeps, by simpa using hnot, fun B j A hj => ?_⟩
       obtain ⟨h0, h1⟩ := acI hp B j A (by simpa using hj)
       refine ⟨h0, ?_⟩
       rcases h1 with h1 | h1
       ·exact .inl fun S hS hd => XJ ht h1 S hS hd
       ·exact .inr h1
     | cons x a =>
       simp only [List.cons_append, List.cons.injEq] at e
       obtain ⟨rfl, e⟩ := e
       have := k1 a j b e
       simpa [List.append_assoc] using this
    ·rcases k2 m hm with h1 | h1
     ·rcases List.mem_cons.1 h1 with rfl | h1
      ·exact .inr (by simp)
      ·exact .inl h1
     ·exact .inr (by simp [h1])
   ·cases h
theorem adP {i : Nat} {l σ : List Nat} (h : (i :: l).Sublist σ) : ∃ a b, σ = a ++ i :: b ∧ l.Sublist b := by
 induction σ with
 | nil => cases h
 | cons x σ ih =>
   cases h with
   | cons _ h =>
     obtain ⟨a, b, e, h2⟩ := ih h
     exact ⟨x :: a, b, by rw [e]; rfl, h2⟩
   | cons_cons _ h => exact ⟨[], σ, rfl, h⟩
theorem aec {ops : Array Oper} {σ : List Nat} (hσ : ∀ a i b, σ = a ++ i :: b → af1 ops a.reverse i) : σ.Nodup ∧ ∀ i ∈ σ, i < ops.size := by
 constructor
 ·have key : ∀ (b a : List Nat), σ = a ++ b → b.Nodup ∧ ∀ x ∈ b, x ∉ a := by
   intro b
   induction b with
   | nil => intro a _; exact ⟨List.nodup_nil, by simp⟩
   | cons i b ih =>
     intro a e
     obtain ⟨n1, n2⟩ := ih (a ++ [i]) (by rw [e]; simp)
     obtain ⟨o, _, _, hn, _⟩ := (hσ a i b e).ex
     refine ⟨List.nodup_cons.2 ⟨fun h => n2 i h (by simp), n1⟩, fun x hx => ?_⟩
     rcases List.mem_cons.1 hx with rfl | hx
     ·simpa using hn
     ·intro h
      exact n2 x hx (by simp [h])
  exact (key σ [] rfl).1
 ·intro i hi
  obtain ⟨a, b, e⟩ := List.append_of_mem hi
  obtain ⟨o, ho, _⟩ := (hσ a i b e).ex
  exact (Array.getElem?_eq_some_iff.1 ho).1
def SF (ops : Array Oper) (j m : Nat) : Prop := ∀ om, ops[m]? = some om → uX ops om j = true
theorem ahQ {R : Nat → Nat → Prop} {σ : List Nat} (h : ∀ a i b, σ = a ++ i :: b → ∀ j ∈ a, R j i) : σ.Pairwise R := by
 have key : ∀ n, n ≤ σ.length → (σ.take n).Pairwise R := by
  intro n
  induction n with
  | zero => intro _; simp
  | succ n ih =>
    intro hn
    have hg : σ[n]? = some σ[n] := List.getElem?_eq_getElem (by omega)
    rw [List.take_add_one, hg]
    refine List.pairwise_append.2 ⟨ih (by omega), by simp, fun j hj x hx => ?_⟩
    simp only [Option.toList_some, List.mem_singleton] at hx
    subst hx
    refine h (σ.take n) σ[n] (σ.drop (n + 1)) ?_ j hj
    rw [← List.drop_eq_getElem_cons (by omega), List.take_append_drop]
 have := key σ.length (Nat.le_refl _)
 rwa [List.take_length] at this
def LD (ops : Array Oper) (i : Nat) : List Nat → List Nat
 | [] => LQ ops i
 | j :: p => JK ops j (LD ops i p)
theorem ajB {ops : Array Oper} {i s : Nat} : ∀ {p : List Nat}, s ∈ LD ops i p ↔ s ∈ LQ ops i ∧ ∀ m ∈ p, (ops[m]?).bind (·.dst) ≠ some s
 | [] => by simp [LD]
 | j :: r => by
   simp only [LD, aeI, ajB, List.mem_cons, forall_eq_or_imp]
   constructor
   ·rintro ⟨⟨h1, h2⟩, h3⟩; exact ⟨h1, h3, h2⟩
   ·rintro ⟨h1, h2, h3⟩; exact ⟨⟨h1, h3⟩, h2⟩
section
variable [Inhabited aQ]
end
theorem ahg {ops : Array Oper} {i : Nat} {oi : Oper} (hi : ops[i]? = some oi) {post : List Nat} : ∀ {pre : List Nat} {st : St} {k : St → Option α} {r : α}, (pre ++ i :: post).Pairwise (SF ops) → (∀ p1 j p2, pre = p1 ++ j :: p2 → ∃ oj, ops[j]? = some oj ∧ (Gz ops oj oi || yX ops (LD ops i p2) oj oi || tY ops (LD ops i p2) oj oi || yK ops (LD ops i p2) oj oi) = true) → Inv ops (pre ++ i :: post) st → Lj E ops (pre ++ i :: post) st k = some r → (evIL E ops (LD ops i pre) i oi st fun s => Lj E ops (pre ++ post) s k) = some r
 | [], st, k, r, _, _, _, hk => by
   rw [List.nil_append, abz hi] at hk
   exact hk
 | j :: pre, st, k, r, hsf, hp, hinv, hk => by
   obtain ⟨oj, hj, hs⟩ := hp [] j pre rfl
   obtain ⟨hv, dj, hdj⟩ := ajg hs
   have hcj : ∀ s : St, chkQ E ops j oj s = true := fun s => agh hv
   rw [List.cons_append, abz hj, evI, hcj, cond_true] at hk
   rw [List.cons_append, List.pairwise_cons] at hsf
   obtain ⟨yj, fj⟩ := JQ E ops (mQ ops j) oj hv hdj
   have hk2 : (lX E ops (mQ ops j) oj st fun s => evIL E ops (LD ops i pre) i oi s fun s => Lj E ops (pre ++ post) s k) = some r := by
    rw [fj.form, Option.bind_eq_some_iff] at hk ⊢
    obtain ⟨q, hq, hk⟩ := hk
    have hinv2 : Inv ops (pre ++ i :: post) (mkSt st oj.dst q.1 q.2) := Inv.made (fun m hm => hinv m (List.mem_cons_of_mem _ hm)) hj (fun m hm => hsf.1 m hm) (fj.made st q hq)
    exact ⟨q, hq, ahg hi hsf.2 (fun p1 j' p2 e => hp (j :: p1) j' p2 (by rw [e]; rfl)) hinv2 hk⟩
   have e : ∀ s : St, Lj E ops (j :: pre ++ post) s k = lX E ops (mQ ops j) oj s fun s => Lj E ops (pre ++ post) s k := fun s => by
    rw [List.cons_append, abz hj, evI, hcj, cond_true]
   simp only [e]
   have hcl : lY oj.op = true → lJ (kY oj) st := fun hm => hinv j (by simp) oj hj (by simp [qw, hm])
   have hcl2 : qw oi.op = true → lJ (kY oi) st := fun hm => hinv i (by simp) oi hi hm
   rw [Bool.or_eq_true, Bool.or_eq_true, Bool.or_eq_true] at hs
   rcases hs with ((hs | hs) | hs) | hs
   ·simp only [evIL, agh (agz hs), cond_true] at hk2 ⊢
    exact am0 hs hcl hcl2 hk2
   ·have hLD : LD ops i (j :: pre) = rmN dj (LD ops i pre) := by
     show JK ops j (LD ops i pre) = _
     simp only [JK, hj, Option.bind_some, hdj]
    rw [hLD]
    exact alH hs hcl hdj hk2
   ·have hLD : LD ops i (j :: pre) = rmN dj (LD ops i pre) := by
     show JK ops j (LD ops i pre) = _
     simp only [JK, hj, Option.bind_some, hdj]
    rw [hLD]
    have hb : qw oi.op = true := by
     simp only [tY, Bool.and_eq_true] at hs
     simp [qw, hs.1.2]
    exact ajH hs hcl (hcl2 hb) hdj hk2
   ·have hLD : LD ops i (j :: pre) = rmN dj (LD ops i pre) := by
     show JK ops j (LD ops i pre) = _
     simp only [JK, hj, Option.bind_some, hdj]
    rw [hLD]
    exact ak6 hs hdj hk2
section
variable [Inhabited aQ]
end
theorem api (L : LM) : V L (.tup []) undef := ⟨#[], rfl, by simp [VAll]⟩
section
variable [Inhabited aQ]
theorem ahI {ops : Array Oper} (h : RelL F L st a w) {g : Bool} (hg : xy ops o st = some g) : Region.wanted o (yielded ops a.tmps) = g := by
 unfold xy at hg
 split at hg
 ·rename_i hgd
  have := Option.some.inj hg
  subst this
  simp [Region.wanted, hgd]
 ·rename_i j want hgd
  split at hg
  ·rename_i d b hy
   have hg' := Option.some.inj hg
   subst hg'
   have hyy : yielded ops a.tmps j = some b := by
    unfold Qx at hy
    rw [Option.bind_eq_some_iff] at hy
    obtain ⟨d', hd', hy⟩ := hy
    split at hy
    ·rename_i b' hs
     simp only [Option.some.injEq, Prod.mk.injEq] at hy
     obtain ⟨rfl, rfl⟩ := hy
     have hx := h.get (.tmp d')
     simp only [St.get, hs, V, Act.eval] at hx
     unfold yielded
     rw [hd']
     simp only [Option.bind_some]
     rw [Array.getD_eq_getD_getElem?] at hx
     cases hx' : a.tmps[d']? with
     | none => simp [hx', undef] at hx
     | some y => simp [hx'] at hx; rw [hx]
    ·simp at hy
   cases b <;> cases want <;> simp [Region.wanted, hgd, hyy]
  ·obtain ⟨hv, hg⟩ := ifB hg
   have hg' := Option.some.inj hg
   subst hg'
   have hno : yielded ops a.tmps j = none := by
    unfold Wq at hv
    unfold yielded
    split at hv
    ·rename_i d hd
     rw [hd]
     simp only [Option.bind_some]
     split at hv
     ·rename_i l hs
      split at hv
      ·have hx := h.get (.tmp d)
       simp only [St.get, hs, V, Act.eval] at hx
       obtain ⟨arr, he, _⟩ := hx
       rw [Array.getD_eq_getD_getElem?] at he
       cases hx : a.tmps[d]? with
       | none => rfl
       | some y =>
         rw [hx] at he
         simp only [Option.getD_some] at he
         rw [he]
      ·cases hv
     ·cases hv
    ·cases hv
   simp [Region.wanted, hgd, hno]
end
theorem lJ.fresh {id : Nat} {b : Blk} (h : lJ (id / 64) st) : st.fresh id b = ⟨st.slots, st.heap ++ [(id, b)]⟩ := by
 have h1 : st.slots.map (jw id) = st.slots := by
  conv => rhs; rw [← List.map_id st.slots]
  refine List.map_congr_left fun x hx => ?_
  have := Ez (mJ.1 h.1 x hx) rfl
  simp [jw, this]
 have h2 : ∀ hp : Heap, ZK (id / 64) hp = false → uY id (del hp id) = hp := by
  intro hp
  induction hp with
  | nil => intro _; rfl
  | cons p hp ih =>
    intro hc
    obtain ⟨j, c⟩ := p
    simp only [ZK, Bool.or_eq_false_iff] at hc
    obtain ⟨c1, c2, c3⟩ := hc
    have hne : Nat.beq j id = false := by
     cases hb : Nat.beq j id with
     | false => rfl
     | true =>
       have := aJ hb
       subst this
       simp at c1
    simp only [del, hne, cond_false, uY, ih c3]
    congr 2
    cases c with
    | map => first | rfl | (cases h; done) | (simp at h; done) | (simp at *; done)
    | bld => first | rfl | (cases h; done) | (simp at h; done) | (simp at *; done)
    | rows => rfl
    | mix m e l =>
      simp only [qQ]
      congr 1
      conv => rhs; rw [← List.map_id l]
      refine List.map_congr_left fun x hx => ?_
      simp only [Blk.at] at c2
      have := Ez (mJ.1 c2 x hx) rfl
      simp [jw, this]
 simp only [St.fresh, h1, h2 _ h.2]
theorem aeW (o : Oper) : gJ o.dst / 64 = kY o := by
 unfold gJ kY
 simp
theorem ajJ {E : Env α} {q : Blk × AV} (h : VK E o st = some q) (hc : lJ (kY o) st) (κ : St → Option α) : evOp E o st κ = κ (St.put ⟨st.slots, st.heap ++ [(gJ o.dst, q.1)]⟩ o.dst q.2) := by
 unfold VK at h
 obtain ⟨hle, h⟩ := ifB h
 rw [← aeW o] at hc
 have hf := fun b => lJ.fresh (b := b) hc
 cases hop : o.op with
 | alloc t =>
   rw [hop] at h
   simp only [Option.bind_eq_some_iff] at h
   obtain ⟨z, hz, h⟩ := h
   obtain ⟨hcc, h⟩ := ifB h
   have := Option.some.inj h
   subst this
   simp only [Bool.and_eq_true, Bool.not_eq_true'] at hcc
   simp only [evOp, hop, hz, Option.bind_some, hcc.1, cond_true, tJ, hle, hcc.2, cond_false, hf]
 | box t x =>
   rw [hop] at h
   simp only at h
   obtain ⟨hcc, h⟩ := ifB h
   have := Option.some.inj h
   subst this
   simp only [Bool.and_eq_true, Bool.not_eq_true'] at hcc
   simp only [evOp, hop, hcc.1, cond_true, tJ, hle, hcc.2, cond_false, hf]
 | buildSlice t len parts =>
   rw [hop] at h
   simp only [Option.bind_eq_some_iff] at h
   obtain ⟨b, hb, h⟩ := h
   cases hn : AV.namesAll (gJ o.dst) b.flat with
   | true => rw [hn, cond_true] at h; cases h
   | false =>
     rw [hn, cond_false] at h
     have := Option.some.inj h
     subst this
     simp only [evOp, hop, hb, Option.bind_some, tJ, hle, cond_true, hn, cond_false, hf]
 | makeSlice t l c =>
   rw [hop] at h
   simp only at h
   split at h
   ·rename_i e n hu hl
    simp only [Option.bind_eq_some_iff] at h
    obtain ⟨ty, h1, z, h2, x, h3, sz, h4, h⟩ := h
    obtain ⟨h5, h⟩ := ifB h
    obtain ⟨h6, h⟩ := ifB h
    have := Option.some.inj h
    subst this
    simp only [evOp, hop, hu, hl, h1, h2, h3, h4, h5, h6, Option.bind_some, cond_true, tJ, hle, hf]
   ·cases h
 | _ => rw [hop] at h; simp at h
structure NoId (j : Nat) (i : Imp) : Prop where
 slots : AV.namesAll j i.st.slots = false
 heap : ∀ p ∈ i.st.heap, p.1 ≠ j ∧ ∀ m e l, p.2 = .mix m e l → AV.namesAll j l = false
 args : AV.namesAll j i.args = false
 acc : AV.namesAll j i.acc = false
theorem vY {j : Nat} : ∀ {l : List AV}, AV.namesAll j l = false ↔ ∀ x ∈ l, x.names j = false
 | [] => by simp [AV.namesAll]
 | x :: l => by simp [AV.namesAll, vY (l := l)]
theorem ac5 {j : Nat} {l : List AV} (h : AV.namesAll j l = false) : l.map (jw j) = l := by
 conv => rhs; rw [← List.map_id l]
 refine List.map_congr_left fun x hx => ?_
 simp [jw, vY.1 h x hx]
theorem NoId.fresh {j : Nat} {i : Imp} (h : NoId j i) (hn : i.n = j) (b : Blk) : i.fresh b = ⟨⟨i.st.slots, i.st.heap ++ [(j, b)]⟩, i.args, i.acc, j + 1⟩ := by
 have hh : ∀ hp : Heap, (∀ p ∈ hp, p.1 ≠ j ∧ ∀ m e l, p.2 = .mix m e l → AV.namesAll j l = false) → uY j (del hp j) = hp := by
  intro hp
  induction hp with
  | nil => intro _; rfl
  | cons p hp ih =>
    intro hc
    obtain ⟨x, c⟩ := p
    obtain ⟨c1, c2⟩ := hc (x, c) (by simp)
    have hne : Nat.beq x j = false := by
     cases hb : Nat.beq x j with
     | false => rfl
     | true => exact absurd (aJ hb) c1
    simp only [del, hne, cond_false, uY, ih fun q hq => hc q (List.mem_cons_of_mem _ hq)]
    congr 2
    cases c with
    | map => first | rfl | (cases h; done) | (simp at h; done) | (simp at *; done)
    | bld => first | rfl | (cases h; done) | (simp at h; done) | (simp at *; done)
    | rows => rfl
    | mix m e l => simp only [qQ, ac5 (c2 m e l rfl)]
 unfold Imp.fresh St.fresh
 rw [hn, ac5 h.slots, hh _ h.heap, ac5 h.args, ac5 h.acc]
def Imp.with (i : Imp) (bs : List (Nat × Blk)) (m : Nat) : Imp := ⟨⟨i.st.slots, i.st.heap ++ bs⟩, i.args, i.acc, m⟩
theorem afK {n m M : Nat} {d : D} {bs : List (Nat × Blk)} {v : AV} {i : Imp} {K : Imp → AV → Option α} (h : impC n d = some (bs, v, m)) (hn : i.n = n) (hm : m ≤ M) (hf : ∀ j, n ≤ j → j < M → NoId j i) :
 QJ i d K = K (i.with bs m) v ∧ (∀ j, m ≤ j → j < M → NoId j (i.with bs m)) ∧ ∀ j, m ≤ j → v.names j = false := by
 cases d with
 | sl e t l =>
   simp only [impC, Option.some.injEq, Prod.mk.injEq] at h
   obtain ⟨rfl, rfl, rfl⟩ := h
   have h0 := hf n (by omega) (by omega)
   refine ⟨?_, fun j a b => ?_, fun j a => ?_⟩
   ·simp only [QJ, h0.fresh hn, hn]
    rfl
   ·have hj := hf j (by omega) b
    refine ⟨hj.slots, fun p hp => ?_, hj.args, hj.acc⟩
    rcases List.mem_append.1 hp with hp | hp
    ·exact hj.heap p hp
    ·simp only [List.mem_singleton] at hp
     subst hp
     exact ⟨by simp only; omega, fun m e l hx => by cases hx⟩
   ·simp only [AV.names]
    cases hb : Nat.beq n j with
    | false => rfl
    | true => have := aJ hb; omega
 | same j => simp [impC, nK] at h
 | _ =>
   simp only [impC, Option.map_eq_some_iff, Prod.mk.injEq] at h
   obtain ⟨x, hx, rfl, rfl, rfl⟩ := h
   have hw : i.with [] n = i := by
    obtain ⟨⟨sl, hp⟩, ar, ac, n'⟩ := i
    simp only at hn
    subst hn
    simp [Imp.with]
   rw [hw]
   refine ⟨by simp only [QJ, hx, Option.bind_some], hf, fun j _ => ?_⟩
   simp only [nK] at hx
   first
    | (have := Option.some.inj hx; subst this; rfl)
    | cases hx
theorem Imp.with_with (i : Imp) (as bs : List (Nat × Blk)) (m m' : Nat) : (i.with as m).with bs m' = i.with (as ++ bs) m' := by simp [Imp.with]
theorem al4 {n m : Nat} {ds : List D} {bs : List (Nat × Blk)} {vs : List AV} (h : VY n ds = some (bs, vs, m)) : n ≤ m := (aaL h).1
theorem abr {M : Nat} : ∀ {ds : List D} {n m : Nat} {bs : List (Nat × Blk)} {vs : List AV} {i : Imp} {K : Imp → List AV → Option α}, VY n ds = some (bs, vs, m) → i.n = n → m ≤ M → (∀ j, n ≤ j → j < M → NoId j i) →
 JZ i ds K = K (i.with bs m) vs ∧ (∀ j, m ≤ j → j < M → NoId j (i.with bs m)) ∧ ∀ j, m ≤ j → AV.namesAll j vs = false
 | [], n, m, bs, vs, i, K, h, hn, hm, hf => by
   simp only [VY, Option.some.injEq, Prod.mk.injEq] at h
   obtain ⟨rfl, rfl, rfl⟩ := h
   have hw : i.with [] n = i := by
    obtain ⟨⟨sl, hp⟩, ar, ac, n'⟩ := i
    simp only at hn
    subst hn
    simp [Imp.with]
   rw [hw]
   exact ⟨rfl, hf, fun _ _ => rfl⟩
 | d :: ds, n, m, bs, vs, i, K, h, hn, hm, hf => by
   simp only [VY, Option.bind_eq_some_iff, Option.map_eq_some_iff, Prod.mk.injEq] at h
   obtain ⟨⟨b1, v1, m1⟩, h1, ⟨b2, v2, m2⟩, h2, rfl, rfl, rfl⟩ := h
   simp only at *
   have hle := al4 h2
   obtain ⟨a1, a2, a3⟩ := afK (K := fun i v => JZ i ds fun i vs => K i (v :: vs)) h1 hn (by omega) hf
   obtain ⟨c1, c2, c3⟩ := abr (i := i.with b1 m1) (K := fun i vs => K i (v1 :: vs)) h2 rfl hm a2
   rw [Imp.with_with] at c1 c2
   refine ⟨?_, c2, fun j hj => ?_⟩
   ·simp only [JZ]
    rw [a1, c1]
   ·simp only [AV.namesAll, a3 j (by omega), c3 j hj, Bool.or_false]
theorem ai4 {e : TypeId} {l : List AV} {m e' : Nat} {l' : List AV} (h : lV 2 e l = .mix m e' l') : l' = l := by
 unfold lV at h
 split at h
 ·split at h
  ·cases h
  ·injection h with _ _ h; exact h.symm
 ·injection h with _ _ h; exact h.symm
theorem aox {M : Nat} {n m : Nat} {d : D} {bs : List (Nat × Blk)} {v : AV} {i : Imp} {K : Imp → AV → Option α} (h : imp1 i.args n d = some (bs, v, m)) (hn : i.n = n) (hm : m ≤ M) (hf : ∀ j, n ≤ j → j < M → NoId j i) :
 imp i d K = K (i.with bs m) v ∧ (∀ j, m ≤ j → j < M → NoId j (i.with bs m)) ∧ ∀ j, m ≤ j → j < M → v.names j = false := by
 cases d with
 | agg l =>
   simp only [imp1, Option.map_eq_some_iff, Prod.mk.injEq] at h
   obtain ⟨⟨b1, v1, m1⟩, h1, rfl, rfl, rfl⟩ := h
   obtain ⟨c1, c2, c3⟩ := abr (K := fun i vs => K i (.agg vs)) h1 hn hm hf
   exact ⟨by simp only [imp]; exact c1, c2, fun j hj _ => by simp only [AV.names]; exact c3 j hj⟩
 | ptr e l =>
   simp only [imp1, Option.map_eq_some_iff, Prod.mk.injEq] at h
   obtain ⟨⟨b1, v1, m1⟩, h1, rfl, rfl, rfl⟩ := h
   simp only at *
   obtain ⟨c1, c2, c3⟩ := abr (M := M) (K := fun i vs => K (i.fresh (lV 2 e vs)) (.ptr i.n 0 0)) h1 hn (by omega) hf
   have h0 := c2 m1 (by omega) (by omega)
   refine ⟨?_, fun j a b => ?_, fun j a _ => ?_⟩
   ·simp only [imp]
    rw [c1, h0.fresh rfl]
    simp [Imp.with]
   ·have hj := c2 j (by omega) b
    refine ⟨hj.slots, fun p hp => ?_, hj.args, hj.acc⟩
    simp only [Imp.with] at hp
    rw [← List.append_assoc] at hp
    rcases List.mem_append.1 hp with hp | hp
    ·exact hj.heap p hp
    ·simp only [List.mem_singleton] at hp
     subst hp
     refine ⟨by simp only; omega, fun m e l hx => ?_⟩
     rw [ai4 hx]
     exact c3 j (by omega)
   ·simp only [AV.names]
    cases hb : Nat.beq m1 j with
    | false => rfl
    | true => have := aJ hb; omega
 | same x =>
   simp only [imp1, Option.map_eq_some_iff, Prod.mk.injEq] at h
   obtain ⟨u, hu, rfl, rfl, rfl⟩ := h
   have hw : i.with [] n = i := by
    obtain ⟨⟨sl, hp⟩, ar, ac, n'⟩ := i
    simp only at hn
    subst hn
    simp [Imp.with]
   rw [hw]
   refine ⟨by simp only [imp, hu, Option.bind_some], hf, fun j a b => ?_⟩
   exact vY.1 (hf j a b).args u (List.mem_of_getElem? hu)
 | _ =>
   unfold imp1 at h
   obtain ⟨a1, a2, a3⟩ := afK (K := K) h hn hm hf
   exact ⟨by simp only [imp]; exact a1, a2, fun j a _ => a3 j a⟩
theorem akm {M : Nat} {avs : List AV} : ∀ {rs : List D} {n m : Nat} {bs : List (Nat × Blk)} {vs : List AV} {i : Imp} {K : Imp → Option α}, YV avs n rs = some (bs, vs, m) → i.args = avs → i.n = n → m ≤ M → (∀ j, n ≤ j → j < M → NoId j i) →
 imps i rs K = K ⟨⟨i.st.slots, i.st.heap ++ bs⟩, i.args, i.acc ++ vs, m⟩
 | [], n, m, bs, vs, i, K, h, ha, hn, hm, hf => by
   simp only [YV, Option.some.injEq, Prod.mk.injEq] at h
   obtain ⟨rfl, rfl, rfl⟩ := h
   obtain ⟨⟨sl, hp⟩, ar, ac, n'⟩ := i
   simp only at hn
   subst hn
   simp [imps]
 | d :: rs, n, m, bs, vs, i, K, h, ha, hn, hm, hf => by
   simp only [YV, Option.bind_eq_some_iff, Option.map_eq_some_iff, Prod.mk.injEq] at h
   obtain ⟨⟨b1, v1, m1⟩, h1, ⟨b2, v2, m2⟩, h2, rfl, rfl, rfl⟩ := h
   simp only at *
   have hle := (aaD h2).1
   rw [← ha] at h1
   obtain ⟨a1, a2, a3⟩ := aox (M := M) (K := fun i v => imps { i with acc := i.acc ++ [v] } rs K) h1 hn (by omega) hf
   have hr := akm (i := { i.with b1 m1 with acc := (i.with b1 m1).acc ++ [v1] }) (K := K) h2 ha rfl hm fun j a b => by
    have hj := a2 j a b
    refine ⟨hj.slots, hj.heap, hj.args, ?_⟩
    rw [vY]
    intro x hx
    rcases List.mem_append.1 hx with hx | hx
    ·exact vY.1 hj.acc x hx
    ·simp only [List.mem_singleton] at hx
     subst hx
     exact a3 j a b
   simp only [imps]
   rw [a1, hr]
   simp [Imp.with]
open Classical in
section
variable [Inhabited aQ]
theorem al0 (hE : LZ F E R) {ns : List Nat} (h : RelL F L st a w) (hcl : qw o.op = true → lJ (kY o) st) (hg : Goes F k r next) (hk : CJ E ns o st k = some r) : o.wp E.P a w next Q := by
 let N := st.heap.length
 let W (h' : Heap) : Heap := if qy (h'.drop N) (h'.take N) then jW (h'.drop N) (h'.take N) else h'
 have hW : ∀ h' j, look (W h') j = look h' j := fun h' j => by
  show look (if _ then _ else _) j = _
  split
  ·rename_i hc
   rw [ade hc]
   exact congrArg (fun x => look x j) (List.take_append_drop N h')
  ·rfl
 have hWb : ∀ (h0 : Heap) bs, h0.length = N → qy bs h0 → W (h0 ++ bs) = jW bs h0 := fun h0 bs hl hb => by
  show (if _ then _ else _) = _
  rw [← hl, List.drop_left, List.take_left, if_pos hb]
 have hWa : ∀ bs, qy bs st.heap → W (st.heap ++ bs) = jW bs st.heap := fun bs hb => hWb st.heap bs rfl hb
 have hgW : Goes F (fun s => k ⟨s.slots, W s.heap⟩) r next := fun st' a' w' hk' ⟨L', hr'⟩ => hg _ _ _ hk' ⟨L', hr'.looks fun j => hW st'.heap j⟩
 unfold CJ at hk
 cases hm : lY o.op with
 | true =>
   rw [hm, cond_true, Option.bind_eq_some_iff] at hk
   obtain ⟨q, hq, hk⟩ := hk
   obtain ⟨_, hk⟩ := ifB hk
   have hc := hcl (by simp [qw, hm])
   refine LX (k := fun s => k ⟨s.slots, W s.heap⟩) hE h hgW ?_
   rw [ajJ hq hc]
   have hnew : qy [(gJ o.dst, q.1)] st.heap := ⟨hc.gone (aeW o), by simp, trivial⟩
   have : (⟨(St.put ⟨st.slots, st.heap ++ [(gJ o.dst, q.1)]⟩ o.dst q.2).slots, W (St.put ⟨st.slots, st.heap ++ [(gJ o.dst, q.1)]⟩ o.dst q.2).heap⟩ : St) = mkSt st o.dst [(gJ o.dst, q.1)] q.2 := by
    cases hd : o.dst with
    | none =>
      rw [hd] at hnew
      simp only [St.put, mkSt, hWa _ hnew]
    | some d =>
      rw [hd] at hnew
      simp only [St.put, mkSt, hWa _ hnew]
   show k ⟨_, W _⟩ = some r
   rw [this]
   exact hk
 | false =>
   rw [hm, cond_false] at hk
   cases hv : tq o.op with
   | true =>
     rw [hv, cond_true] at hk
     exact LX hE h (fun st' a' w' hk' hr' => hg _ _ _ (ifB hk').2 hr') hk
   | false =>
     rw [hv, cond_false] at hk
     cases hcv : Dy o.op with
     | true =>
       rw [hcv, cond_true] at hk
       obtain ⟨c, f, hop, hcal, _, _⟩ := ack hcv
       rw [hop] at hk
       simp only [hcal] at hk
       unfold aeZ at hk
       rw [Option.bind_eq_some_iff] at hk
       obtain ⟨⟨g, ds, avs, ids⟩, hp, hk⟩ := hk
       have hc := hcl (by simp [qw, hcv])
       obtain ⟨caps, hf, hav, hids, hnd, hle, hds⟩ := afF hp
       try simp only at hf hav hids hnd hds hk
       subst hav
       refine ahh (k := fun s => k ⟨s.slots, W s.heap⟩) hE.hC hop hcal h hE.low hgW hf hids hnd hds hk fun res hres => ?_
       rw [Option.bind_eq_some_iff] at hres
       obtain ⟨h1, hback, hres⟩ := hres
       rw [Option.bind_eq_some_iff] at hres
       obtain ⟨q, hq, hres⟩ := hres
       obtain ⟨_, hres⟩ := ifB hres
       obtain ⟨vs, m, him, hm64, hq2⟩ := agF hq
       try simp only at him
       rw [hback]
       simp only [Option.bind_some, tJ, hle, cond_true]
       have hc1 : lJ (kY o) (⟨st.slots, h1⟩ : St) := abK hback hc
       have hno : ∀ j, gJ o.dst ≤ j → j < gJ o.dst + 64 → NoId j ⟨⟨st.slots, h1⟩, c.args.toList.map st.get ++ caps, [], gJ o.dst⟩ := fun j h1 h2 => by
        have hj : j / 64 = kY o := by
         have := aeW o
         unfold gJ at h1 h2
         unfold kY
         omega
        refine ⟨vY.2 fun x hx => Ez (mJ.1 hc1.1 x hx) hj, fun p hp => ?_, vY.2 fun x hx => ?_, rfl⟩
        ·obtain ⟨p1, p2⟩ := tV.1 hc1.2 p hp
         refine ⟨fun e => p1 (by rw [e]; exact hj), fun m e l he => ?_⟩
         rw [he] at p2
         simp only [Blk.at] at p2
         exact vY.2 fun x hx => Ez (mJ.1 p2 x hx) hj
        ·rcases List.mem_append.1 hx with hx | hx
         ·obtain ⟨y, _, rfl⟩ := List.mem_map.1 hx
          exact Ez (hc.get y) hj
         ·have := hc.get f
          rw [hf] at this
          simp only [AV.at] at this
          exact Ez (mJ.1 this x hx) hj
       rw [akm (M := gJ o.dst + 64) him rfl rfl hm64 hno]
       have hnew : qy q.1 h1 := (aaD him).2.2 h1 fun j a1 a2 => by
        cases hl : look h1 j with
        | none => rfl
        | some b => exact absurd rfl ((hno j a1 (by omega)).heap _ (EW hl)).1
       have : (⟨(St.put ⟨st.slots, h1 ++ q.1⟩ o.dst q.2).slots, W (St.put ⟨st.slots, h1 ++ q.1⟩ o.dst q.2).heap⟩ : St) = mkSt ⟨st.slots, h1⟩ o.dst q.1 q.2 := by
        cases hd : o.dst <;> simp only [St.put, mkSt, hWb h1 _ (ajT hback) hnew]
       show k ⟨(St.put ⟨st.slots, h1 ++ q.1⟩ o.dst (Vz ([] ++ vs))).slots, W (St.put ⟨st.slots, h1 ++ q.1⟩ o.dst (Vz ([] ++ vs))).heap⟩ = some r
       rw [List.nil_append, ← hq2, this]
       exact hres
     | false =>
       rw [hcv, cond_false] at hk
       split at hk
       ·exact LX hE h hg (ifB hk).2
       ·split at hk
        ·exact LX hE h hg hk
        ·cases hk
end
open Classical in
section
variable [Inhabited aQ]
theorem alJ (hE : LZ F E R) {ops : Array Oper} {σ : List Nat} (hσ : ∀ a i b, σ = a ++ i :: b → af1 ops a.reverse i) {k : St → Option α} {r : α} (hQ : ∀ st a w, k st = some r → Rel F st a w → Q .normal a w) :
 ∀ (n : Nat) {l : List Nat} {listed : Array Bool} {st : St} {a : Act} {w : World}, l.length ≤ n → l.Sublist σ → (∀ m, listed.getD m true = false ↔ m ∈ l) → listed.size = ops.size → acG ops (fun m => listed.getD m false = true) →
   Inv ops l st → Lj E ops l st k = some r → Rel F st a w → wpAny E.P .any ops Q n listed a w := by
 obtain ⟨hnd, hlt⟩ := aec hσ
 have hpw : σ.Pairwise (SF ops) := ahQ fun a i b e j hj om hom => by
  obtain ⟨o, ho, _, _, hp⟩ := (hσ a i b e).ex
  rw [ho] at hom
  have := Option.some.inj hom
  subst this
  obtain ⟨A, B, e2⟩ := List.append_of_mem (show j ∈ a.reverse by simpa using hj)
  exact (hp A j B e2).1
 have ready_l : ∀ {l : List Nat} {listed : Array Bool}, (∀ m, listed.getD m true = false ↔ m ∈ l) → ∀ i ∈ Region.ready .any ops listed, i ∈ l := fun h i hi => (h i).1 (mem_ready.1 hi).1
 have depmem : ∀ (es : List Edge) (e : Edge), e ∈ es → Region.binds .any e = true → e.on ∈ zW es := by
  intro es
  induction es with
  | nil => intro e he; simp at he
  | cons x r ih =>
    intro e he hb
    simp only [zW]
    rcases List.mem_cons.1 he with rfl | he
    ·rw [hb, cond_true]; simp
    ·cases Region.binds .any x with
     | true => rw [cond_true]; exact List.mem_cons_of_mem _ (ih e he hb)
     | false => rw [cond_false]; exact ih e he hb
 have memdep : ∀ (es : List Edge) (d : Nat), d ∈ zW es → ∃ e ∈ es, Region.binds .any e = true ∧ e.on = d := by
  intro es
  induction es with
  | nil => intro d hd; simp [zW] at hd
  | cons x r ih =>
    intro d hd
    simp only [zW] at hd
    cases hb : Region.binds .any x with
    | true =>
      rw [hb, cond_true] at hd
      rcases List.mem_cons.1 hd with rfl | hd
      ·exact ⟨x, by simp, hb, rfl⟩
      ·obtain ⟨e, h1, h2⟩ := ih d hd
       exact ⟨e, by simp [h1], h2⟩
    | false =>
      rw [hb, cond_false] at hd
      obtain ⟨e, h1, h2⟩ := ih d hd
      exact ⟨e, by simp [h1], h2⟩
 have getD_lt : ∀ {listed : Array Bool} {m : Nat}, listed.size = ops.size → m < ops.size → listed.getD m true ≠ false → listed.getD m false = true := by
  intro listed m hs hm h
  have hm' : m < listed.size := by omega
  simp only [Array.getD_eq_getD_getElem?, Array.getElem?_eq_getElem hm', Option.getD_some] at h ⊢
  cases hb : listed[m] with
  | true => rfl
  | false => exact absurd hb h
 have head_ready : ∀ {l : List Nat} {listed : Array Bool} {i : Nat} {l' : List Nat}, l = i :: l' → l.Sublist σ → (∀ m, listed.getD m true = false ↔ m ∈ l) → listed.size = ops.size → i ∈ Region.ready .any ops listed := by
  intro l listed i l' e hsub hl hs
  subst e
  obtain ⟨a, b, eσ, hb⟩ := adP hsub
  obtain ⟨o, ho, hd, hn, _⟩ := (hσ a i b eσ).ex
  refine mem_ready.2 ⟨(hl i).2 (by simp), o, ho, fun e he hbind => ?_⟩
  have hea : e.on ∈ a := by simpa using hd e.on (depmem _ e (by simpa using he) hbind)
  have hesz : e.on < ops.size := hlt _ (by rw [eσ]; simp [hea])
  refine getD_lt hs hesz fun hf => ?_
  have hin := (hl e.on).1 hf
  rw [eσ] at hnd
  have hdis := (List.nodup_append.1 hnd).2.2 e.on hea
  rcases List.mem_cons.1 hin with h1 | h1
  ·exact hdis i (by simp) h1
  ·exact hdis e.on (by simp [hb.subset h1]) rfl
 intro n
 induction n with
 | zero =>
   intro l listed st a w hlen hsub hl hs hc hinv hk hrel
   have hnil : l = [] := List.eq_nil_of_length_eq_zero (by omega)
   subst hnil
   refine ⟨List.eq_nil_iff_forall_not_mem.2 fun i hi => by have := ready_l hl i hi; simp at this, hQ st a w hk hrel⟩
 | succ n ih =>
   intro l listed st a w hlen hsub hl hs hc hinv hk hrel
   refine ⟨fun hr => ?_, fun i hi => ?_⟩
   ·cases l with
    | nil => exact hQ st a w hk hrel
    | cons i l' =>
      have := head_ready rfl hsub hl hs
      rw [hr] at this
      simp at this
   ·have hil := ready_l hl i hi
    obtain ⟨pre, post, rfl⟩ := List.append_of_mem hil
    obtain ⟨r1, r2, eσ, hpre, hpost⟩ := List.append_sublist_iff.1 hsub
    obtain ⟨a2, b, e2, hb⟩ := adP hpost
    obtain ⟨oi, hoi, hd, hn, hpair⟩ := (hσ (r1 ++ a2) i b (by rw [eσ, e2, List.append_assoc])).ex
    have hready := mem_ready.1 hi
    have hdeps : ∀ e ∈ zW oi.after.toList, listed.getD e false = true := fun d hd => by
     obtain ⟨e, he, hbind, rfl⟩ := memdep _ d hd
     obtain ⟨_, o2, ho2, hall⟩ := hready
     rw [hoi] at ho2
     have := Option.some.inj ho2
     subst this
     exact hall e (by simpa using he) hbind
    have hswap2 : ∀ p1 j p2, pre = p1 ++ j :: p2 → ∃ oj, ops[j]? = some oj ∧ (Gz ops oj oi || yX ops (LD ops i p2) oj oi || tY ops (LD ops i p2) oj oi || yK ops (LD ops i p2) oj oi) = true ∧ uX ops oj i = true := fun p1 j p2 ep => by
     have hjp : j ∈ pre := by rw [ep]; simp
     rw [ep] at hpre
     obtain ⟨s1, s2, er, _, hs2⟩ := List.append_sublist_iff.1 hpre
     obtain ⟨a3, b3, e3, hb3⟩ := adP hs2
     have hsplit : (r1 ++ a2).reverse = (b3 ++ a2).reverse ++ j :: (s1 ++ a3).reverse := by
      rw [er, e3]; simp
     obtain ⟨_, hor⟩ := hpair _ j _ hsplit
     rcases hor with h1 | ⟨oj, h1, h2, h3⟩
     ·exfalso
      have h2 := h1 _ hc hdeps
      have h3 := (hl j).2 (by simp [hjp])
      have hjs : j < listed.size := by rw [hs]; exact hlt j (by rw [eσ, er, e3]; simp)
      simp only [Array.getD_eq_getD_getElem?, Array.getElem?_eq_getElem hjs, Option.getD_some] at h2 h3
      rw [h2] at h3
      cases h3
     ·refine ⟨oj, h1, ?_, h3⟩
      have hsub : ∀ s ∈ zY ops (LQ ops i) (b3 ++ a2).reverse, s ∈ LD ops i p2 := fun s hs => by
       obtain ⟨q1, q2⟩ := acC.1 hs
       exact ajB.2 ⟨q1, fun m hm => q2 m (by simp [hb3.subset hm])⟩
      rw [Bool.or_eq_true, Bool.or_eq_true, Bool.or_eq_true] at h2 ⊢
      rcases h2 with ((h2 | h2) | h2) | h2
      ·exact .inl (.inl (.inl h2))
      ·exact .inl (.inl (.inr (agA h2 hsub)))
      ·exact .inl (.inr (afV h2 hsub))
      ·exact .inr (agO h2 hsub)
    have hswap : ∀ p1 j p2, pre = p1 ++ j :: p2 → ∃ oj, ops[j]? = some oj ∧ (Gz ops oj oi || yX ops (LD ops i p2) oj oi || tY ops (LD ops i p2) oj oi || yK ops (LD ops i p2) oj oi) = true := fun p1 j p2 ep => by
     obtain ⟨oj, h1, h2, _⟩ := hswap2 p1 j p2 ep
     exact ⟨oj, h1, h2⟩
    have hpl := hpw.sublist hsub
    have hfree : ∀ m ∈ pre ++ post, ∀ om, ops[m]? = some om → uX ops om i = true := fun m hm om hom => by
     rcases List.mem_append.1 hm with hm | hm
     ·obtain ⟨p1, p2, ep⟩ := List.append_of_mem hm
      obtain ⟨oj, h1, _, h3⟩ := hswap2 p1 m p2 ep
      rw [h1] at hom
      have := Option.some.inj hom
      subst this
      exact h3
     ·have := (List.pairwise_append.1 hpl).2.1
      exact (List.pairwise_cons.1 this).1 m hm om hom
    have hinv2 : Inv ops (pre ++ post) st := fun m hm => hinv m (by
     rcases List.mem_append.1 hm with hm | hm
     ·simp [hm]
     ·simp [hm])
    have hfront := ajA hoi hinv2 hfree (ahg hoi hpl hswap hinv hk)
    unfold wpOp
    rw [hoi]
    have hnext : Goes F (fun s => if Inv ops (pre ++ post) s then Lj E ops (pre ++ post) s k else none) r (wpAny E.P .any ops Q n (listed.setIfInBounds i true)) := by
     intro st' a' w' hk' hr'
     have hk2 : (if Inv ops (pre ++ post) st' then Lj E ops (pre ++ post) st' k else none) = some r := hk'
     have hi2 : Inv ops (pre ++ post) st' := by
      rcases Classical.em (Inv ops (pre ++ post) st') with h | h
      ·exact h
      ·rw [if_neg h] at hk2; cases hk2
     rw [if_pos hi2] at hk2
     have hk' := hk2
     have hlnd : (pre ++ i :: post).Nodup := hnd.sublist hsub
     have hisz : i < listed.size := by rw [hs]; exact hlt i (by rw [eσ, e2]; simp)
     refine ih (l := pre ++ post) (by simp at hlen ⊢; omega) ?_ (fun m => ?_) (by simpa using hs) ?_ hi2 hk' hr'
     ·exact List.Sublist.trans (List.Sublist.append (List.Sublist.refl _) (List.sublist_cons_self _ _)) hsub
     ·by_cases hm : m = i
      ·subst hm
       have hni : m ∉ pre ++ post := by
        have := List.nodup_append.1 hlnd
        have h2 := List.nodup_cons.1 this.2.1
        intro h
        rcases List.mem_append.1 h with h | h
        ·exact this.2.2 m h m (by simp) rfl
        ·exact h2.1 h
       simp [Array.getD_eq_getD_getElem?, hisz]
       simpa using hni
      ·have e1 : (listed.setIfInBounds i true).getD m true = listed.getD m true := by
        simp [Array.getD_eq_getD_getElem?, Ne.symm hm]
       rw [e1, hl m]
       simp [hm]
     ·intro m om hm hom e he
      by_cases hei : e = i
      ·subst hei
       simp [Array.getD_eq_getD_getElem?, hisz]
      ·have e1 : (listed.setIfInBounds i true).getD e false = listed.getD e false := by
        simp [Array.getD_eq_getD_getElem?, Ne.symm hei]
       show (listed.setIfInBounds i true).getD e false = true
       rw [e1]
       by_cases hmi : m = i
       ·subst hmi
        rw [hoi] at hom
        have := Option.some.inj hom
        subst this
        exact hdeps e he
       ·have e2 : (listed.setIfInBounds i true).getD m false = listed.getD m false := by
         simp [Array.getD_eq_getD_getElem?, Ne.symm hmi]
        have hm' : (listed.setIfInBounds i true).getD m false = true := hm
        rw [e2] at hm'
        exact hc m om hm' hom e he
    obtain ⟨L, hL⟩ := hrel
    unfold evIL at hfront
    obtain ⟨_, hfront⟩ := ifB hfront
    unfold lX at hfront
    rw [Option.bind_eq_some_iff] at hfront
    obtain ⟨g, hg, hfront⟩ := hfront
    have hwant := ahI hL hg
    cases g with
    | true =>
      simp only [hwant, if_true]
      rw [cond_true] at hfront
      exact .inl (al0 hE hL (fun hm => hinv i (by simp) oi hoi hm) hnext hfront)
    | false =>
      simp only [hwant, Bool.false_eq_true, if_false]
      rw [cond_false] at hfront
      exact hnext _ _ _ hfront ⟨L, hL.put (api _) oi.dst⟩
end
theorem XZ (ops : Array Oper) : ∀ (n : Nat) (done : List Nat), (OQ ops n done).length ≤ n + done.length
 | 0, done => by simp [OQ]
 | n + 1, done => by
   simp only [OQ]
   split
   ·rename_i i _
    have := XZ ops n (i :: done)
    simp only [List.length_cons] at this
    omega
   ·split
    ·rename_i i _
     have := XZ ops n (i :: done)
     simp only [List.length_cons] at this
     omega
    ·simp
theorem aeY (o : Oper) (hm : qw o.op = true) : ∀ (l : List Oper), o ∈ l → kY o ∈ rJ l := by
 intro l
 induction l with
 | nil => intro ho; simp at ho
 | cons x r ih =>
   intro ho
   rcases List.mem_cons.1 ho with h | ho
   ·subst h
    rw [show rJ (o :: r) = (bif qw o.op then kY o :: rJ r else rJ r) from rfl, hm, cond_true]
    exact List.mem_cons_self
   ·have := ih ho
    rw [show rJ (x :: r) = (bif qw x.op then kY x :: rJ r else rJ r) from rfl]
    cases qw x.op with
    | true => rw [cond_true]; exact List.mem_cons_of_mem _ this
    | false => rw [cond_false]; exact this
theorem ahE (ops : Array Oper) (l : List Nat) (st : St) : Inv ops l (dropAll (rJ ops.toList) st) := fun i hi o ho hm =>
 ab8 _ st _ (.inl (aeY o hm _ (by
  have := Array.mem_of_getElem? ho
  simpa using this)))
section
variable [Inhabited aQ]
theorem ajO (hE : LZ F E R) {ops : Array Oper} {id : Nat} {k : St → Option α} {r : α} (hQ : ∀ st a w, k st = some r → Rel F st a w → Q .normal a w) (hk : ag2 E ops st k = some r) {a : Act} {w : World} (h : Rel F st a w) : (Code.region id ops true).wp E.P Q a w := by
 unfold ag2 at hk
 obtain ⟨hc, hk⟩ := ifB hk
 simp only [Bool.and_eq_true] at hc
 obtain ⟨h1, h2⟩ := ahe hc.2 (fun m x hx => by simp [WQ] at hx)
 have hσ : ∀ a i b, OQ ops ops.size [] = a ++ i :: b → af1 ops a.reverse i := fun a i b e => by
  have := h1 a i b e
  simpa using this
 obtain ⟨hnd, hlt⟩ := aec hσ
 refine wp_region_any hc.1 ?_
 refine alJ hE hσ hQ ops.size (l := OQ ops ops.size []) ?_ (List.Sublist.refl _) (fun m => ?_) (by simp) (fun m om hm hom => ?_) (ahE ops _ st) hk ?_
 ·have := XZ ops ops.size []
  simpa using this
 ·constructor
  ·intro hf
   have hm : m < ops.size := by
    rcases Nat.lt_or_ge m ops.size with h | h
    ·exact h
    ·simp [Array.getD_eq_getD_getElem?, Nat.not_lt.2 h] at hf
   rcases h2 m hm with h | h
   ·simp at h
   ·exact h
  ·intro hm
   have := hlt m hm
   simp [Array.getD_eq_getD_getElem?, this]
 ·exfalso
  rcases Nat.lt_or_ge m ops.size with h | h
  ·simp [Array.getD_eq_getD_getElem?, h] at hm
  ·simp [Array.getD_eq_getD_getElem?, Nat.not_lt.2 h] at hm
 ·refine Rel.dropAll (rJ ops.toList) ?_
  obtain ⟨L, hL⟩ := h
  exact ⟨L, { hL with
   heap := fun id b hb => by
    obtain ⟨l, hl, hbl⟩ := hL.heap id b hb
    exact ⟨l, hl, ⟨hbl.hw, hbl.hn, hbl.hm, hbl.le, hbl.cells, hbl.ro, hbl.own, hbl.m1, hbl.m2, hbl.nb⟩⟩
   below := ⟨hL.below.os, hL.below.tape, hL.below.output, hL.below.size, hL.below.block, fun q => Nat.le_trans (hL.below.drawn q) (Nat.le_succ _)⟩
   maps := hL.maps.tr _root_.id (fun _ _ h _ => ⟨h, rfl⟩) (fun _ _ _ _ _ _ _ _ h => h) (fun _ _ _ _ h => h) (fun _ _ _ => rfl) (fun _ _ hx => .inl hx) }⟩
end
end Go.Ev
