/-
  An abstract-state layer over the kit's wp, second part: code, loops, drawn regions, contracts, a law's row. No condition; nothing here is trusted.
-/
import Derived.Test.YtnehieeplbgaiacDoorEngA
import Derived.StillTail
import Derived.OrdersHeld
import Derived.Laws.StructEq
import Derived.Carry
import Derived.MapKept
import Derived.Sort.Grow
import Derived.Shelf.Spec.SlicesInsert
import Derived.Lib.SlicesDelete
import Derived.Shelf.Spec.SlicesInsertGrow
import Derived.ChangeArms
import Derived.ChangeOld
import Derived.SizedLaws
import Derived.DataReads
import Derived.WalkKit
import Derived.ProofKit
import Derived.OpenShut
import Derived.ShutString
import Derived.Below
set_option linter.unusedVariables false
set_option linter.unusedSimpArgs false
namespace Go.Proofs.YtnehieeplbgaiacDoor.Eng
open Go Go.RowKit
def lendM (h : List AObj) : AV → AV
 | .nm id k => match k, h[id]? with
  | [], some (.mapo es) => .mp es
  | _, _ => .nm id k
 | x => x
def Z18 (h : List AObj) : AV → AV
 | .own id sz off len => match h[id]? with
  | some (.row _ rs es) => if sz = rs then .ro sz ((es.drop off).take len) else .any
  | _ => .any
 | .ptr id i sz j => match h[id]? with
  | some (.row _ rs es) => if sz = rs then .rp ((Z2 es i).drop j) else .any
  | some (.box _ cs) => if i = 0 ∧ (cs.map (AV.sub (lendM h))).all AV.flat = true then .rp ((cs.map (AV.sub (lendM h))).drop j) else .any
  | _ => .any
 | .nm id k => match k, h[id]? with
  | [], some (.mapo es) => .mp es
  | [0], some (.lin _ _ sz _ none none es) => .ro sz es
  | [1, q], some (.lin _ _ _ isz none none es) => .ro isz (innOf (Z2 es q))
  | [3, q, l, t], some (.lin _ _ _ isz none none es) => .ro isz (((innOf (Z2 es q)).take t).drop l)
  | _, _ => .any
 | x => x
mutual
def AV.plain : AV → Bool
 | .any | .v _ => true
 | .tup cs => AV.plainL cs
 | .agg cs => AV.plainL cs
 | _ => false
def AV.plainL : List AV → Bool
 | [] => true
 | x :: r => x.plain && AV.plainL r
end
section
variable {P : Program} {T : Tab} {X : Ctx} {σ σ' : Nat → Option Blk} {F F' : Nat → Prop} {s s' : St} {a : Act} {w w' : World} {o : Oper} {c : Prop} {x : AV} {v : Value} {K : St → Prop}
theorem AV.plainL_get : ∀ {l : List AV} {j : Nat} {x : AV}, AV.plainL l = true → l[j]? = some x → x.plain = true
 | y :: r, 0, x, h, hx => by simp at hx; subst hx; simp only [AV.plainL, Bool.and_eq_true] at h; exact h.1
 | y :: r, j + 1, x, h, hx => by simp only [AV.plainL, Bool.and_eq_true] at h; exact AV.plainL_get h.2 (by simpa using hx)
theorem RepV.plain (h : RepV σ F w x v) : x.plain = true → RepV σ' F' w' x v := by
 induction h with
 | f x y h =>
  intro hp
  cases h with
  | any => exact .f _ _ (.any _)
  | v => exact .f _ _ (.v _)
  | _ => simp [AV.plain] at hp
 | agg cs vs hl h1 h ih =>
  intro hp
  simp only [AV.plain] at hp
  exact .agg _ _ hl h1 (fun j x u hx hu => ih j x u hx hu (AV.plainL_get hp hx))
 | tup cs vs hl h ih =>
  intro hp
  simp only [AV.plain] at hp
  exact .tup _ _ hl (fun j x u hx hu => ih j x u hx hu (AV.plainL_get hp hx))
 | _ => intro hp; simp [AV.plain] at hp
def Zgy (σ : Nat → Option Blk) (F : Nat → Prop) (b : Nat) : Prop := F b ∨ ∃ id, hasB σ id b
theorem RepF.lent (h : RepF F w x v) : RepF (Zgy σ F) w x v := h.mono (fun _ h => .inl h) (fun _ _ => rfl)
theorem RepV.nmv {id : Nat} {k : List Nat} (h : RepV σ F w (.nm id k) v) : ∃ gs V, σ id = some (.ext gs V) ∧ v = V k := by
 cases h with
 | f _ _ h => cases h
 | nm _ _ gs V h _ => exact ⟨gs, V, h, rfl⟩
theorem RepV.lendM {h : List AObj} (hr : HRep σ F w h) (hv : RepV σ F w x v) : RepV σ (Zgy σ F) w (x.sub (lendM h)) v := by
 refine hv.sub (fun _ _ h => h.lent) ?_ ?_ ?_
 ·intro id sz off len y hy
  exact hy.mono (fun _ h => .inl h) (fun _ _ => rfl)
 ·intro id q sz j y hy
  exact hy.mono (fun _ h => .inl h) (fun _ _ => rfl)
 ·intro id k y hy
  simp only [Eng.lendM]
  split
  ·rename_i es hq
   obtain ⟨g, arr, clock, h1, h2, h3⟩ := hr.obj id _ hq
   obtain ⟨gs, V, h4, h5⟩ := RepV.nmv hy
   rw [h1] at h4
   cases h4
   rw [h5]
   exact .f _ _ (.mp es g arr clock (.inr ⟨id, _, h1, rfl⟩) h2 h3)
  ·exact hy.mono (fun _ h => .inl h) (fun _ _ => rfl)
theorem RepV.borrow {h : List AObj} (hr : HRep σ F w h) (hv : RepV σ F w x v) : RepV (fun _ => none) (Zgy σ F) w (x.sub (Z18 h)) v := by
 refine hv.sub (fun _ _ h => h.lent) ?_ ?_ ?_
 ·intro id sz off len y hy
  simp only [Z18]
  split
  ·rename_i e rs es hq
   have hob := hr.obj id _ hq
   by_cases hsz : sz = rs
   ·subst hsz
    rw [if_pos rfl]
    rcases RepV.ownv hy with ⟨h1, rfl, rfl, rfl⟩ | ⟨g, b, c, n, h1, hn, hc, hy⟩
    ·simpa using RepV.f _ _ (.nil0 sz 0 none)
    ·obtain ⟨rfl, h2, h3, V, hV⟩ := Z30 hob h1
     rcases Nat.eq_zero_or_pos len with h0 | h0
     ·subst h0
      rw [List.take_zero]
      rcases hy with rfl | ⟨_, _, _, A, rfl⟩
      ·exact .f _ _ (.nil0 _ _ _)
      ·exact .f _ _ (.nil0 _ _ _)
     ·rcases hy with rfl | ⟨h4, _⟩
      ·have hl : ((es.drop off).take len).length = len := by simp; omega
       have hget : ∀ q cs, ((es.drop off).take len)[q]? = some cs → es[off + q]? = some cs := fun q cs hq => by
        rw [List.getElem?_take] at hq
        split at hq
        ·rwa [List.getElem?_drop] at hq
        ·cases hq
       refine .f _ _ (.ro _ _ _ _ _ (fun q j => V (off + q) j) hl (by omega) (.inr ⟨_, .at h1⟩) (fun cs hcs => h3 cs (List.mem_of_mem_drop (List.mem_of_mem_take hcs))) (fun q cs j x hq hj => ?_) (fun q cs j x hq hj => ?_))
       ·obtain ⟨h5, h6, _⟩ := hV _ cs j x (hget q cs hq) hj
        refine ⟨?_, h6⟩
        rw [Zl, ← Nat.add_assoc, ← Nat.add_mul, Nat.add_assoc]
        exact h5
       ·exact (hV _ cs j x (hget q cs hq) hj).2.2.lent
      ·omega
   ·rw [if_neg hsz]; exact .f _ _ (.any _)
  ·exact .f _ _ (.any _)
 ·intro id q sz j y hy
  simp only [Z18]
  obtain ⟨g, b, c, n, h1, rfl⟩ := RepV.ptrv hy
  split
  ·rename_i e rs es hq
   have hob := hr.obj id _ hq
   by_cases hsz : sz = rs
   ·subst hsz
    rw [if_pos rfl]
    obtain ⟨rfl, h2, h3, V, hV⟩ := Z30 hob h1
    have hget : ∀ k x, ((Z2 es q).drop j)[k]? = some x → ∃ cs, es[q]? = some cs ∧ cs[j + k]? = some x := fun k x hk => by
     rw [List.getElem?_drop] at hk
     unfold Z2 at hk
     cases he : es[q]? with
     | none => rw [he] at hk; simp at hk
     | some cs => rw [he] at hk; exact ⟨cs, rfl, hk⟩
    refine .f _ _ (.rp _ _ (fun k => V q (j + k)) (.inr ⟨_, .at h1⟩) (fun k x hk => ?_) (fun k x hk => ?_))
    ·obtain ⟨cs, h4, h5⟩ := hget k x hk
     obtain ⟨h6, h7, _⟩ := hV q cs _ x h4 h5
     refine ⟨?_, h7⟩
     rw [Zl, Nat.add_assoc]
     exact h6
    ·obtain ⟨cs, h4, h5⟩ := hget k x hk
     exact (hV q cs _ x h4 h5).2.2.lent
   ·rw [if_neg hsz]; exact .f _ _ (.any _)
  ·rename_i e cs hq
   split
   ·rename_i hc
    obtain ⟨rfl, hfl⟩ := hc
    obtain ⟨V, hV⟩ := Zbk (s := ⟨[], h⟩) hr h1 (k := 0) (sz := sz) (by simp only [hq, Zu])
    simp only [hq, Zu] at hV
    refine .f _ _ (.rp _ _ (fun k => V (j + k)) (.inr ⟨_, .at h1⟩) (fun k x hk => ?_) (fun k x hk => ?_))
    ·rw [List.getElem?_drop, List.getElem?_map, Option.map_eq_some_iff] at hk
     obtain ⟨x, hk, rfl⟩ := hk
     obtain ⟨h5, h6, _⟩ := hV _ x hk
     refine ⟨?_, h6⟩
     rw [Zl, Nat.add_assoc]
     exact h5
    ·rw [List.getElem?_drop] at hk
     have hfx := List.all_eq_true.1 hfl _ (List.mem_of_getElem? hk)
     rw [List.getElem?_map, Option.map_eq_some_iff] at hk
     obtain ⟨x, hk, rfl⟩ := hk
     exact ((hV _ x hk).2.2.lendM hr).toF hfx
   ·exact .f _ _ (.any _)
  ·exact .f _ _ (.any _)
 ·intro id k y hy
  simp only [Z18]
  split
  ·rename_i es hq
   obtain ⟨g, arr, clock, h1, h2, h3⟩ := hr.obj id _ hq
   obtain ⟨gs, V, h4, h5⟩ := RepV.nmv hy
   rw [h1] at h4
   cases h4
   rw [h5]
   exact .f _ _ (.mp es g arr clock (.inr ⟨id, _, h1, rfl⟩) h2 h3)
  ·rename_i sz isz es hq
   obtain ⟨R, B, V, h1, h2⟩ := hr.obj id _ hq
   obtain ⟨gs, V', h4, h5⟩ := RepV.nmv hy
   rw [h1] at h4
   cases h4
   rw [h5]
   exact .f _ _ (h2.ro0 (fun _ h => .inl h) (fun g hg => .inr ⟨id, _, h1, hg⟩))
  ·rename_i q _ _ _ isz es hq
   obtain ⟨R, B, V, h1, h2⟩ := hr.obj id _ hq
   obtain ⟨gs, V', h4, h5⟩ := RepV.nmv hy
   rw [h1] at h4
   cases h4
   rw [h5]
   exact .f _ _ (h2.ro1 (fun _ h => .inl h) (fun g hg => .inr ⟨id, _, h1, hg⟩) q)
  ·rename_i q l t _ _ _ isz es hq
   obtain ⟨R, B, V, h1, h2⟩ := hr.obj id _ hq
   obtain ⟨gs, V', h4, h5⟩ := RepV.nmv hy
   rw [h1] at h4
   cases h4
   rw [h5]
   exact .f _ _ (h2.ro3 (fun _ h => .inl h) (fun g hg => .inr ⟨id, _, h1, hg⟩) q l t)
  ·exact .f _ _ (.any _)
theorem Zhh {h : List AObj} (hr : HRep σ F w h) : HRep (fun _ => none) (Zgy σ F) w [] := by
 refine ⟨fun id ob ho => by simp at ho, fun _ _ => rfl, fun id id' g h1 => (by obtain ⟨_, h1, _⟩ := h1; cases h1), fun id g h1 => (by obtain ⟨_, h1, _⟩ := h1; cases h1), fun b hb => ?_, hr.lay.mono (fun _ h => .inl h) (fun _ _ => rfl)⟩
 rcases hb with hb | ⟨id, hs⟩
 ·exact hr.flt b hb
 ·exact (hr.lt id b hs).1
theorem op_lent {fop : Operand} {ar : Array Operand} {ts : Array Nat} (ho : o.op = .call { callee := .value fop, args := ar, argTypes := ts }) {f : Nat} {caps : List AV} (hf : s.ev fop = .fn f caps) (hE : Enters P f) {R : AV}
  (spec : FSpec P f [] ((ar.toList.map s.ev ++ caps).map (AV.sub (Z18 s.heap))) (fun r h => r = R ∧ h = [])) (hp : R.plain = true) (hd : dOK X.n o.dst) (hK : K (St.put s o.dst R)) : opWPG P X o K s := by
 rintro Qc next a w hn ⟨σ, F, hr⟩
 obtain ⟨us, hfv, hul, hur⟩ := RepV.fnv (hf ▸ hr.ev fop)
 let vs : List Value := ar.toList.map a.eval ++ us
 have hl : ((ar.toList.map s.ev ++ caps).map (AV.sub (Z18 s.heap))).length = vs.length := by simp [vs, hul]
 have hrep : ∀ (j : Nat) (x : AV) (u : Value), ((ar.toList.map s.ev ++ caps).map (AV.sub (Z18 s.heap)))[j]? = some x → vs[j]? = some u → RepV (fun _ => none) (Zgy σ F) w x u := fun j x u hx hu => by
  rw [List.getElem?_map, Option.map_eq_some_iff] at hx
  obtain ⟨y, hy, rfl⟩ := hx
  refine RepV.borrow hr.heap ?_
  rcases Nat.lt_or_ge j ar.toList.length with h1 | h1
  ·rw [List.getElem?_append_left (by simpa using h1), List.getElem?_map, List.getElem?_eq_getElem h1] at hy
   simp only [vs] at hu
   rw [List.getElem?_append_left (by simpa using h1), List.getElem?_map, List.getElem?_eq_getElem h1] at hu
   injection hu with hu
   injection hy with hy
   rw [← hu, ← hy]
   exact hr.ev _
  ·rw [List.getElem?_append_right (by simpa using h1), List.length_map] at hy
   simp only [vs] at hu
   rw [List.getElem?_append_right (by simpa using h1), List.length_map] at hu
   exact hur _ _ _ hy hu
 have hcall := spec _ _ w vs (Zhh hr.heap) hl hrep
 have hrun : (execOp a.eval o).run P w = .ok (.enter f vs.toArray) w := by
  have hva : ar.map a.eval ++ us.toArray = vs.toArray := by
   apply Array.ext'
   simp [vs]
  simp [execOp, ho, resolve, hfv, Deferred.ofValue, invoke, hva, hE vs.toArray w]
 unfold Oper.wp
 rw [hrun]
 show Calls P f vs.toArray w _
 refine hcall.mono ?_
 rintro e w' ⟨ret, h', σ', F', rv, ⟨rfl, rfl⟩, rfl, h1, h2, h3, h4, h5, h6, h7⟩
 have hk : Ext w w' := ⟨h3.os, h3.tape, h3.output, h3.size, fun b hb _ => h3.block b hb (fun ⟨id, k, h, _⟩ => by cases h)⟩
 exact hn _ _ _ hK ⟨σ, F, (hr.ext hk).put hd (h1.plain hp)⟩ ⟨hk.size, fun b hb => hk.block b hb (fun h => h)⟩
end
end Go.Proofs.YtnehieeplbgaiacDoor.Eng
set_option linter.unusedVariables false
set_option linter.unusedSimpArgs false
namespace Go.Proofs.YtnehieeplbgaiacDoor.Eng
open Go Go.RowKit
mutual
def AV.ids : AV → List Nat
 | .own id _ _ _ => [id]
 | .ptr id _ _ _ => [id]
 | .nm id _ => [id]
 | .agg cs => AV.idsL cs
 | .any | .v _ | .ro .. | .rp _ | .tup _ | .fn .. | .mp _ | .mq _ => []
def AV.idsL : List AV → List Nat
 | [] => []
 | x :: r => x.ids ++ AV.idsL r
end
def freezeAll (s : St) : List Nat → St
 | [] => s
 | id :: r => freezeAll (s.freeze id) r
section
variable {P : Program} {T : Tab} {X : Ctx} {σ σ' : Nat → Option Blk} {F F' : Nat → Prop} {s s' : St} {a : Act} {w w' : World} {o : Oper} {c : Prop} {x : AV} {v : Value} {K K' : St → Prop}
theorem Rep.freezeAll : ∀ (ids : List Nat) (s : St), Rep X s a w → Rep X (Eng.freezeAll s ids) a w
 | [], s, h => h
 | id :: r, s, h => Rep.freezeAll r _ (Rep.freeze h id)
theorem opWP.from (h : ∀ a w, Rep X s a w → Rep X s' a w) (k : opWP P X o K s') : opWP P X o K s := fun Qc next a w hn hr => k Qc next a w hn (h a w hr)
theorem opWP.mono (k : opWP P X o K s) (h : ∀ s, K s → K' s) : opWP P X o K' s := fun Qc next a w hn hr => k Qc next a w (fun s a w h1 h2 => hn s a w (h s h1) h2) hr
theorem op_pick {cnd p q : Operand} (ho : o.op = .pick cnd p q) {t : Bool} (hc : s.ev cnd = .v (.bool t)) (hd : dOK X.n o.dst) (h1 : t = true → K (s.put o.dst (s.ev p))) (h2 : t = false → K (s.put o.dst (s.ev q))) : opWP P X o K s := by
 rintro Qc next a w hn ⟨σ, F, hr⟩
 have hv : a.eval cnd = .bool t := RepV.val (hc ▸ hr.ev cnd)
 unfold Oper.wp
 cases t with
 | true =>
  have : (execOp a.eval o).run P w = .ok (.value (a.eval p)) w := by simp [execOp, ho, hv, asBool]
  rw [this]
  exact hn _ _ _ (h1 rfl) ⟨σ, F, hr.put hd (hr.ev p)⟩
 | false =>
  have : (execOp a.eval o).run P w = .ok (.value (a.eval q)) w := by simp [execOp, ho, hv, asBool]
  rw [this]
  exact hn _ _ _ (h2 rfl) ⟨σ, F, hr.put hd (hr.ev q)⟩
def Z9n (x : AV) : Option (Prop × Prop) :=
 match x with
 | .ro _ es => some (es ≠ [], es = [])
 | .own _ _ _ len => some (len ≠ 0, len = 0)
 | _ => none
theorem Z3z {t e : Nat} (hk : P.underlying t = some (.slice e)) (A : Option Addr) (n c : Nat) : (Op.equal t (.slice A n c) (.slice none 0 0)).run P w = .ok A.isNone w := by
 have h : ∀ d, (Op.equalIn (d + 1) t (.slice A n c) (.slice none 0 0)).run P w = .ok A.isNone w := fun d => by
  cases A <;> simp [Op.equalIn, run_underlying hk]
 exact h 9999
theorem Zj7 {t t' e : Nat} {y z : Operand} {op : BinOp} (hop : op = .eql ∨ op = .neq) (ho : o.op = .binOp op t y z t') (hT : Zh P T) {m p : Nat} {zv : Value} (ht : T t = some ⟨.slice e, m, p, zv⟩) (hz : s.ev z = .v (.slice none 0 0)) {c1 c2 : Prop} (hy : Z9n (s.ev y) = some (c1, c2)) (hd : dOK X.n o.dst)
  (h1 : c1 → K (s.put o.dst (.v (.bool (decide (op = .neq)))))) (h2 : c2 → ∀ b, K (s.put o.dst (.v (.bool b)))) : opWP P X o K s := by
 rintro Qc next a w hn ⟨σ, F, hr⟩
 have hu : P.underlying t = some (.slice e) := (hT _ _ ht).kind
 have hvz : a.eval z = .slice none 0 0 := RepV.val (hz ▸ hr.ev z)
 have key : ∃ A n c, a.eval y = .slice A n c ∧ (c1 → A.isNone = false) ∧ (¬ c1 → c2) := by
  unfold Z9n at hy
  split at hy
  ·rename_i sz es he
   cases hy
   obtain ⟨A, c, hv, _, hx⟩ := RepV.rov (he ▸ hr.ev y)
   exact ⟨A, _, c, hv, fun hne => by obtain ⟨ad, _, rfl, _⟩ := hx hne; rfl, fun h => Classical.not_not.1 h⟩
  ·rename_i id sz off len he
   cases hy
   rcases RepV.ownv (he ▸ hr.ev y) with ⟨_, _, rfl, hv⟩ | ⟨g, b, cp, n, _, _, _, hv | ⟨rfl, _, _, A, hv⟩⟩
   ·exact ⟨_, _, _, hv, fun h => absurd rfl h, fun _ => rfl⟩
   ·exact ⟨_, _, _, hv, fun _ => rfl, fun h => Classical.not_not.1 h⟩
   ·exact ⟨_, _, _, hv, fun h => absurd rfl h, fun _ => rfl⟩
  ·cases hy
 obtain ⟨A, n, cp, hvy, h3, h4⟩ := key
 have hrun : (execOp a.eval o).run P w = .ok (.value (.bool (A.isNone != decide (op = .neq)))) w := by
  rcases hop with rfl | rfl
  ·simp only [execOp, ho, hvy, hvz, eqGuard, binOp, Sem.run_bind, Z3z hu, Result.andThen_ok, Sem.run_pure]
   simp
  ·simp only [execOp, ho, hvy, hvz, eqGuard, binOp, Sem.run_bind, Z3z hu, Result.andThen_ok, Sem.run_pure]
   simp
 unfold Oper.wp
 rw [hrun]
 by_cases hc : c1
 ·rw [h3 hc]
  have : (false != decide (op = .neq)) = decide (op = .neq) := by simp
  rw [this]
  exact hn _ _ _ (h1 hc) ⟨σ, F, hr.put hd (.f _ _ (.v _))⟩
 ·exact hn _ _ _ (h2 (h4 hc) _) ⟨σ, F, hr.put hd (.f _ _ (.v _))⟩
end
@[irreducible] def OWED (P : Program) (X : Ctx) (o : Oper) (K : St → Prop) (s : St) : Prop := opWP P X o K s
theorem OWED.intro {P : Program} {X : Ctx} {o : Oper} {K : St → Prop} {s : St} (h : opWP P X o K s) : OWED P X o K s := by unfold OWED; exact h
def useVal (r : Option (Prop × AV)) (k : Prop → AV → Prop) (e : Unit → Prop) : Prop := match r with
 | some (c, x) => k c x
 | none => e ()
def useMem (r : Option (Prop × St × AV)) (k : Prop → St → AV → Prop) (e : Unit → Prop) : Prop := match r with
 | some (c, s, x) => k c s x
 | none => e ()
def Zcs (x : AV) (k : Bool → Prop) : Prop := match x with
 | .v (.bool b) => k b
 | _ => False
def useNil (r : Option (Prop × Prop × Bool)) (k : Prop → Prop → Bool → Prop) (e : Unit → Prop) : Prop := match r with
 | some (c1, c2, b) => k c1 c2 b
 | none => e ()
def Zjq (T : Tab) (m : Nat) (t t' : Nat) (yz : AV × AV) (s : St) : Option (Prop × St × AV) :=
 match T t with
 | some ⟨.slice e, _, _, _⟩ => match T e with
  | some ti => match Z21 s ti.size yz.2 with
   | some (c, news) => match yz.1 with
    | .v (.slice none 0 0) => some (c ∧ (match T t' with | some ⟨.slice _, _, _, _⟩ => True | some ⟨.str, _, _, _⟩ => True | _ => False) ∧ 0 < ti.size ∧ 0 < ti.bytes ∧ news.length * ti.bytes ≤ 140737488355328,
      St.appended ⟨s.env, s.heap ++ [.row e ti.size []]⟩ s.heap.length (.row e ti.size news), .own s.heap.length ti.size 0 news.length)
    | .own id sz off len => match s.heap[id]? with
     | some (.row e' rs es) => some (c ∧ (match T t' with | some ⟨.slice _, _, _, _⟩ => True | some ⟨.str, _, _, _⟩ => True | _ => False) ∧ 0 < ti.size ∧ 0 < ti.bytes ∧ e' = e ∧ rs = ti.size ∧ sz = ti.size ∧ off + len = es.length ∧ m ≤ id ∧ (len + news.length) * ti.bytes ≤ 140737488355328,
       s.appended id (.row e ti.size (es.drop off ++ news)), .own id ti.size 0 (len + news.length))
     | _ => none
    | _ => none
   | none => none
  | none => none
 | _ => none
abbrev Book := Nat → List AV → Option (Prop × AV)
def exCall (s : St) (f : Nat) (caps : List AV) (fop : Operand) (args : List Operand) : Option (Prop × AV) → Option (Prop × St × AV)
 | some (c, R) => if R.plain then some (c, s, R) else match caps with
  | [] => let s1 := freezeAll s (AV.idsL (args.map s.ev))
   some (s1.ev fop = .fn f [] ∧ (args.map s1.ev).map (AV.sub (Z1o [])) = (args.map s.ev ++ []).map (AV.sub (Z18 s.heap)) ∧ c, s1, R.sub (Z1f [] s1.heap.length))
  | _ => none
 | none => none
def exMem (T : Tab) (B : Book) (m : Nat) (s : St) (o : Oper) : Option (Prop × St × AV) :=
 match o.op with
 | .alloc e => match T e with
  | some i => some (True, ⟨s.env, s.heap ++ [.box e (i.zero.cells.toList.map .v)]⟩, .ptr s.heap.length 0 i.size 0)
  | none => none
 | .box e y => some ((s.ev y).full = true, ⟨s.env, s.heap ++ [.box e (cellsOf (s.ev y))]⟩, .ptr s.heap.length 0 0 0)
 | .build t parts => match T t with
  | some ⟨.struct fs, _, _, z⟩ => match Z2m T fs with
   | some pl => match Z5s pl (z.cells.toList.map .v) (parts.toList.map fun q => (q.1, s.ev q.2)) with
    | some (c, cs) => some (c, s, .agg cs)
    | none => none
   | none => none
  | _ => none
 | .buildSlice t len parts => match T t with
  | some ⟨.slice e, _, _, _⟩ => match T e with
   | some i => let s1 := freezeAll s (AV.idsL (parts.toList.map fun q => s.ev q.2))
    some (parts.toList.map (·.1) = List.range len ∧ rowOK i.size (parts.toList.map fun q => s1.ev q.2) ∧ 0 < i.size ∧ len * i.size ≤ 16777216,
    ⟨s1.env, s1.heap ++ [.row e i.size (parts.toList.map fun q => cellsOf (s1.ev q.2))]⟩, .own s1.heap.length i.size 0 len)
   | none => none
  | _ => none
 | .makeSlice t y z => match T t, s.ev y, s.ev z with
  | some ⟨.slice e, _, _, _⟩, .v (.int _ q), .v (.int _ q') => match T e with
   | some i => some (q = q' ∧ 0 ≤ q ∧ q * i.bytes ≤ 140737488355328 ∧ 0 < i.bytes ∧ 0 < i.size, ⟨s.env, s.heap ++ [.row e i.size (List.replicate q.toNat (i.zero.cells.toList.map .v))]⟩, .own s.heap.length i.size 0 q.toNat)
   | none => none
  | _, _, _ => none
 | .store t y z => match T t, s.ev y with
  | some i, .ptr id k sz j => match s.heap[id]? with
   | some (.box e cs) => some (k = 0 ∧ (s.ev z).full = true ∧ (cellsOf (s.ev z)).length = i.size ∧ j + i.size ≤ cs.length, ⟨s.env, s.heap.set id (.box e (putA cs j (cellsOf (s.ev z))))⟩, .any)
   | some (.row e rs es) => let s1 := freezeAll s (s.ev z).ids
    some (rs = sz ∧ k < es.length ∧ s1.heap[id]? = some (.row e rs es) ∧ s1.ev y = .ptr id k sz j ∧ (s1.ev z).full = true ∧ (cellsOf (s1.ev z)).all AV.flat = true ∧ (cellsOf (s1.ev z)).length = i.size ∧ j + i.size ≤ sz,
    ⟨s1.env, s1.heap.set id (.row e sz (es.set k (putA (Z2 es k) j (cellsOf (s1.ev z)))))⟩, .any)
   | _ => none
  | _, _ => none
 | .call { callee := .builtin .append, args := args, argTypes := ts } => match args.toList, ts.toList with
  | [y, z], [t, t'] => Zjq T m t t' (s.ev y, s.ev z) s
  | _, _ => none
 | .call { callee := .value fop, args := args, .. } => match s.ev fop with
  | .fn f caps => exCall s f caps fop args.toList (B f ((args.toList.map s.ev ++ caps).map (AV.sub (Z18 s.heap))))
  | _ => none
 | _ => none
def eqOp (op : BinOp) : Option Bool := if op = .eql then some false else if op = .neq then some true else none
def exNil (T : Tab) (s : St) (op : BinOp) (t : Nat) (y z : Operand) : Option (Prop × Prop × Bool) :=
 match T t, s.ev z, Z9n (s.ev y), eqOp op with
 | some ⟨.slice _, _, _, _⟩, .v (.slice none 0 0), some (c1, c2), some b => some (c1, c2, b)
 | _, _, _, _ => none
def kVal (n : Nat) (o : Oper) (K : St → Prop) (s : St) (c : Prop) (x : AV) : Prop := dOK n o.dst ∧ c ∧ K (s.put o.dst x)
def kMem (n : Nat) (o : Oper) (K : St → Prop) (c : Prop) (s1 : St) (x : AV) : Prop := dOK n o.dst ∧ c ∧ K (s1.put o.dst x)
def kPick (n : Nat) (o : Oper) (K : St → Prop) (s : St) (p q : Operand) (t : Bool) : Prop := dOK n o.dst ∧ (t = true → K (s.put o.dst (s.ev p))) ∧ (t = false → K (s.put o.dst (s.ev q)))
def kNil (n : Nat) (o : Oper) (K : St → Prop) (s : St) (c1 c2 : Prop) (b : Bool) : Prop := dOK n o.dst ∧ (c1 → K (s.put o.dst (.v (.bool b)))) ∧ (c2 → ∀ b, K (s.put o.dst (.v (.bool b))))
def eOwed (P : Program) (X : Ctx) (o : Oper) (K : St → Prop) (s : St) (_ : Unit) : Prop := OWED P X o K s
def eVal (P : Program) (T : Tab) (B : Book) (X : Ctx) (n m : Nat) (o : Oper) (K : St → Prop) (s : St) (_ : Unit) : Prop := match o.op with
 | .pick cnd p q => Zcs (s.ev cnd) (kPick n o K s p q)
 | .binOp op t y z _ => useNil (exNil T s op t y z) (kNil n o K s) (eOwed P X o K s)
 | _ => useMem (exMem T B m s o) (kMem n o K) (eOwed P X o K s)
def exOpB (P : Program) (T : Tab) (B : Book) (X : Ctx) (n m : Nat) (o : Oper) (K : St → Prop) (s : St) : Prop := useVal (Zc T s o.op) (kVal n o K s) (eVal P T B X n m o K s)
def exOp (P : Program) (T : Tab) (B : Book) (X : Ctx) (n m : Nat) (o : Oper) (K : St → Prop) (s : St) : Prop := exOpB P T B X n m o K s
section
variable {P : Program} {T : Tab} {X : Ctx} {σ σ' : Nat → Option Blk} {F F' : Nat → Prop} {s s' : St} {a : Act} {w w' : World} {o : Oper} {c : Prop} {x : AV} {v : Value} {K K' : St → Prop}
theorem Zk2 (s : St) : s.back [] [] = s := by
 cases s with
 | mk env heap =>
  simp only [St.back, Z1j, List.drop_nil, List.map_nil, List.append_nil, idx]
  congr 1
  apply List.ext_getElem?
  intro i
  simp
theorem leL_refl : ∀ (l : List AV), AV.leL l l
 | [] => trivial
 | x :: r => ⟨.refl x, leL_refl r⟩
end
end Go.Proofs.YtnehieeplbgaiacDoor.Eng
set_option linter.unusedVariables false
set_option linter.unusedSimpArgs false
namespace Go.Proofs.YtnehieeplbgaiacDoor.Eng
open Go Go.RowKit
def nthDst : List Oper → Nat → Option Nat
 | [], _ => none
 | o :: _, 0 => o.dst
 | _ :: r, j + 1 => nthDst r j
theorem nthDst_eq : ∀ (l : List Oper) (j : Nat), nthDst l j = (l[j]?).bind (·.dst)
 | [], j => by simp [nthDst]
 | o :: r, 0 => by simp [nthDst]
 | o :: r, j + 1 => by simp [nthDst, nthDst_eq r j]
def kGuard (n : Nat) (o : Oper) (d : Nat) (want : Bool) (K1 K2 : St → Prop) (s : St) (b : Bool) : Prop :=
 d < n ∧ dOK n o.dst ∧ (b = want → K1 ⟨(d, .v (.bool want)) :: s.env, s.heap⟩) ∧ (b = !want → K2 (St.put ⟨(d, .v (.bool (!want))) :: s.env, s.heap⟩ o.dst .any))
def kCond (K1 K2 : St → Prop) (s : St) (t : Bool) : Prop := (t = true → K1 s) ∧ (t = false → K2 s)
def Zjp (P : Program) (T : Tab) (B : Book) (X : Ctx) (n m : Nat) (ops : List Oper) : List Oper → (St → Prop) → St → Prop
 | [], K, s => K s
 | o :: r, K, s => match o.guard with
  | none => exOp P T B X n m o (Zjp P T B X n m ops r K) s
  | some (j, want) => match nthDst ops j with
   | some d => Zcs (envGet s.env d) (kGuard n o d want (exOp P T B X n m o (Zjp P T B X n m ops r K)) (Zjp P T B X n m ops r K) s)
   | none => False
@[irreducible] def LOOP (P : Program) (X : Ctx) (c : Code) (Q : Exit → St → Prop) (s : St) : Prop := WP P X c Q s
theorem LOOP.intro {P : Program} {X : Ctx} {c : Code} {Q : Exit → St → Prop} {s : St} (h : WP P X c Q s) : LOOP P X c Q s := by unfold LOOP; exact h
def ex (P : Program) (T : Tab) (B : Book) (X : Ctx) (n m : Nat) : Code → (Exit → St → Prop) → St → Prop
 | .skip, Q, s => Q .normal s
 | .region _ ops false, Q, s => Zjp P T B X n m ops.toList ops.toList (Q .normal) s
 | .seq a b, Q, s => ex P T B X n m a (Zip (ex P T B X n m b Q) Q) s
 | .cond c a b, Q, s => Zcs (s.ev c) (kCond (ex P T B X n m a Q) (ex P T B X n m b Q) s)
 | .block id b, Q, s => ex P T B X n m b (Zek id Q) s
 | .exit id, Q, s => Q (.exit id) s
 | .ret, Q, s => Q .ret s
 | c, Q, s => LOOP P X c Q s
section
variable {P : Program} {T : Tab} {B : Book} {X : Ctx} {s : St}
theorem Rep.know {X : Ctx} {s : St} {a : Act} {w : World} {d : Nat} {b : Bool} (hd : envGet s.env d = .v (.bool b)) (hr : Rep X s a w) : Rep X ⟨(d, .v (.bool b)) :: s.env, s.heap⟩ a w := by
 obtain ⟨σ, F, hr⟩ := hr
 refine ⟨σ, F, hr.defers, hr.size, fun i => ?_, hr.heap, hr.keep, hr.own, hr.fnew, hr.stab, hr.hm⟩
 simp only [envGet]
 split
 ·rename_i e; subst e; rw [← hd]; exact hr.env i
 ·exact hr.env i
end
def Ret (T : Tab) (fn : Func) (m : Nat) (post : AV → List AObj → Prop) (s : St) : Prop :=
 match Z5g T s fn.results.toList with
 | some (c, xs) => c ∧ ∃ extra : List Nat, (List.range m ++ extra).Nodup ∧ (∀ i ∈ extra, i < s.heap.length) ∧ ∃ ret, AV.le ((retAV xs).sub (Z1o (List.range m ++ extra))) ret ∧ post ret (Z1r (List.range m ++ extra) s.heap)
 | none => False
def Qret (T : Tab) (fn : Func) (m : Nat) (post : AV → List AObj → Prop) : Exit → St → Prop
 | .normal, s => Ret T fn m post s
 | .ret, s => Ret T fn m post s
 | _, _ => False
def tabGet : List (Nat × TI) → Nat → Option TI
 | [], _ => none
 | (k, i) :: r, t => if t = k then some i else tabGet r t
theorem tabGet_mem : ∀ {l : List (Nat × TI)} {t : Nat} {i : TI}, tabGet l t = some i → (t, i) ∈ l
 | (k, j) :: r, t, i, h => by
  unfold tabGet at h
  split at h
  ·rename_i e; injection h with h; subst e h; exact List.mem_cons_self
  ·exact List.mem_cons_of_mem _ (tabGet_mem h)
theorem Ziq {P : Program} {l : List (Nat × TI)} (h : ∀ p ∈ l, TIOk P p.1 p.2) : Zh P (tabGet l) := fun t i ht => h _ (tabGet_mem ht)
end Go.Proofs.YtnehieeplbgaiacDoor.Eng
set_option linter.unusedVariables false
set_option linter.unusedSimpArgs false
namespace Go.Proofs.YtnehieeplbgaiacDoor.Eng
open Go Go.RowKit
section
variable {P : Program} {ops : Array Oper} {Q : Exit → Act → World → Prop} {md : Region.Mode} {S : World → Prop}
def anyT (P : Program) (md : Region.Mode) (ops : Array Oper) (Q : Exit → Act → World → Prop) (n : Nat) (L : Array Bool → Act → World → Prop) : Nat → Array Bool → Act → World → (World → Prop) → Prop
 | 0, listed, a, w, _ => L listed a w
 | f + 1, listed, a, w, S =>
  Region.ready md ops listed ≠ [] ∧ ∀ i ∈ Region.ready md ops listed, i < n ∧ wpOp P ops Q i (fun a' w' => S w' ∧ anyT P md ops Q n L f (listed.setIfInBounds i true) a' w' S) a w
theorem Z86 {n : Nat} {L : Array Bool → Act → World → Prop} {S S' : World → Prop} (hS : ∀ w, S w → S' w) : ∀ (f : Nat) (listed : Array Bool) (a : Act) (w : World), anyT P md ops Q n L f listed a w S → anyT P md ops Q n L f listed a w S'
 | 0, _, _, _, h => h
 | f + 1, listed, a, w, h => ⟨h.1, fun i hi => ⟨(h.2 i hi).1, wpOp_mono (fun a' w' h' => ⟨hS _ h'.1, Z86 hS f _ a' w' h'.2⟩) (h.2 i hi).2⟩⟩
theorem Z5u {n g : Nat} {L : Array Bool → Act → World → Prop} {S : World → Prop} (hL : ∀ listed a w, L listed a w → wpAny P md ops Q g listed a w) :
  ∀ (f : Nat) (listed : Array Bool) (a : Act) (w : World), anyT P md ops Q n L f listed a w S → wpAny P md ops Q (f + g) listed a w
 | 0, listed, a, w, h => by rw [Nat.zero_add]; exact hL _ _ _ h
 | f + 1, listed, a, w, h => by
  rw [show f + 1 + g = (f + g) + 1 by omega]
  exact ⟨fun h0 => absurd h0 h.1, fun i hi => wpOp_mono (fun a' w' h' => Z5u hL f _ a' w' h'.2) (h.2 i hi).2⟩
def Z7l (md : Region.Mode) (ops : Array Oper) (n : Nat) : Bool := decide (n = ops.size) || (decide (n < ops.size) && Region.sinkB md ops n && Region.chainB md ops n)
theorem Z8s {n i : Nat} {listed : Array Bool} (h : Z7l md ops n = true) (inv : HeadInv md ops n listed) (hi : i < n) (hun : listed.getD i true = false) : ∀ j ∈ Region.ready md ops listed, j < n := by
 intro j hj
 simp only [Z7l, Bool.or_eq_true, Bool.and_eq_true, decide_eq_true_eq] at h
 rcases h with h | ⟨⟨h1, h2⟩, h3⟩
 ·subst h
  obtain ⟨_, o, ho, _⟩ := mem_ready.1 hj
  exact (Array.getElem?_eq_some_iff.1 ho).1
 ·rcases Nat.lt_or_ge j n with h | h
  ·exact h
  ·exact absurd hj (tail_waits h2 h3 h1 inv _ i rfl hi hun j h)
theorem Z93 {n i : Nat} {oi : Oper} {v : Value} {L : Array Bool → Act → World → Prop} (hi : ops[i]? = some oi) (hsel : ∀ (j : Nat) (o : Oper) cs b, ops[j]? = some o → o.op ≠ .select cs b)
  (hh : Z7l md ops n = true) (hin : i < n) (hdone : ∀ listed a w, L listed a w → ∀ j ∈ Region.ready md ops listed, n ≤ j) (hQ : ∀ c a w, Q (.panic c) (a.put oi.dst v) w → Q (.panic c) a w) :
  ∀ (f : Nat) (listed : Array Bool) (a : Act) (w : World), HeadInv md ops n listed →
   (∀ j oj, ops[j]? = some oj → j ≠ i → listed.getD j true = false → (∀ e ∈ oj.after, Region.binds md e = true → e.on ≠ i) → oi.apart ops oj = true) →
   i ∈ Region.ready md ops listed → YieldsIf P ops S oi v a → S w →
   anyT P md ops Q n L f (listed.setIfInBounds i true) (a.put oi.dst v) w S → anyT P md ops Q n L (f + 1) listed a w S := by
 intro f
 induction f with
 | zero =>
  intro listed a w inv _ hr hy hS H
  have hun := (mem_ready.1 hr).1
  refine ⟨fun h => (by rw [h] at hr; cases hr), fun j hj => ?_⟩
  have hjn := Z8s hh inv hin hun j hj
  refine ⟨hjn, ?_⟩
  by_cases hji : j = i
  ·subst hji; exact hy.wpOp hi hS ⟨hS, H⟩
  ·have := hdone _ _ _ H j (ready_mono hj hji)
   omega
 | succ f ih =>
  intro listed a w inv hfree hr hy hS H
  have hun := (mem_ready.1 hr).1
  refine ⟨fun h => (by rw [h] at hr; cases hr), fun j hj => ?_⟩
  have hjn := Z8s hh inv hin hun j hj
  refine ⟨hjn, ?_⟩
  by_cases hji : j = i
  ·subst hji; exact hy.wpOp hi hS ⟨hS, H⟩
  ·have h1 := (H.2 j (ready_mono hj hji)).2
   obtain ⟨hjun, oj, hoj, hall⟩ := mem_ready.1 hj
   have hnot : ∀ e ∈ oj.after, Region.binds md e = true → e.on ≠ i := fun e he hb heq => by
    have h1 := hall e he hb
    rw [heq, getD_both hun] at h1
    cases h1
   have h2 := wpOp_putIf hoj (hfree j oj hoj hji hjun hnot) (fun cs b => hsel i oi cs b hi) (fun cs b => hsel j oj cs b hoj) hQ hy h1
   have hfree' : ∀ k ok, ops[k]? = some ok → k ≠ i → (listed.setIfInBounds j true).getD k true = false →
     (∀ e ∈ ok.after, Region.binds md e = true → e.on ≠ i) → oi.apart ops ok = true := fun k ok hk hki hun hno => by
    refine hfree k ok hk hki ?_ hno
    by_cases hjk : j = k
    ·subst hjk; exact hjun
    ·rw [getD_set_ne true hjk] at hun; exact hun
   refine wpOp_mono (fun a' w' h3 => ⟨h3.2.1, ih (listed.setIfInBounds j true) a' w' (inv.set hj hjn) hfree' (ready_mono hr (Ne.symm hji)) h3.1 h3.2.1 ?_⟩) h2
   rw [Array.setIfInBounds_comm _ _ hji]
   exact h3.2.2
end
def Z71 (ops : Array Oper) (n : Nat) : List (Nat × Bool) → Array Bool → Bool
 | [], listed => Region.seqB .any ops (ops.size - n) n listed
 | (i, true) :: r, listed => decide (i < n) && (Region.ready .any ops listed).contains i && Region.free .any ops listed i && Z71 ops n r (listed.setIfInBounds i true)
 | (i, false) :: r, listed => decide (i < n) && decide (Region.ready .any ops listed = [i]) && Z71 ops n r (listed.setIfInBounds i true)
def drawB (ops : Array Oper) (n : Nat) (l : List (Nat × Bool)) : Bool :=
 Region.noSelect ops && Z7l .any ops n && decide (l.length = n) && decide (n ≤ ops.size) && Z71 ops n l (Array.replicate ops.size false)
section
variable {P : Program} {T : Tab} {X : Ctx} {s : St}
def DrawJ (P : Program) (X : Ctx) (ops : Array Oper) (n : Nat) (rest : List (Nat × Bool)) (listed : Array Bool) (K : St → Prop) (s : St) : Prop :=
 ∀ (Qc : Exit → Act → World → Prop) a w, (∀ c a b w, Qc (.panic c) a w → Qc (.panic c) b w) → (∀ s' a' w', K s' → Rep X s' a' w' → Qc .normal a' w') → Rep X s a w → HeadInv .any ops n listed →
  anyT P .any ops Qc n (fun listed a w => Region.seqB .any ops (ops.size - n) n listed = true ∧ wpList P ops Qc (ops.toList.drop n) a w) rest.length listed a w (Grow w)
variable {ops : Array Oper} {n : Nat} {rest : List (Nat × Bool)} {listed : Array Bool} {K : St → Prop}
theorem DrawJ.nil (hw : Z71 ops n [] listed = true) (h : WPO P X ops (ops.toList.drop n) K s) : DrawJ P X ops n [] listed K s := by
 intro Qc a w hQ hK hr inv
 exact ⟨hw, h Qc a w hK hr⟩
theorem Zb5 {listed : Array Bool} {a : Act} {w : World} {Qc : Exit → Act → World → Prop} (h : Region.seqB .any ops (ops.size - n) n listed = true ∧ wpList P ops Qc (ops.toList.drop n) a w) : ∀ j ∈ Region.ready .any ops listed, n ≤ j := seqB_ready h.1
theorem DrawJ.take {i : Nat} {o : Oper} (hi : ops[i]? = some o) (hs : Region.noSelect ops = true) (hh : Z7l .any ops n = true) (hin : i < n) (hr : (Region.ready .any ops listed).contains i = true) (hf : Region.free .any ops listed i = true)
  {x : AV} (hd : dOK X.n o.dst) (hy : ∀ σ F a w, RepAt X σ F s a w → ∃ v, YieldsIf P ops (Grow w) o v a ∧ RepV σ F w x v) (h : DrawJ P X ops n rest (listed.setIfInBounds i true) K (s.put o.dst x)) : DrawJ P X ops n ((i, true) :: rest) listed K s := by
 intro Qc a w hQ hK hrep inv
 obtain ⟨σ, F, hat⟩ := hrep
 obtain ⟨v, hv, hx⟩ := hy σ F a w hat
 have hr' : i ∈ Region.ready .any ops listed := by simpa using hr
 exact Z93 hi (Region.noSelect_spec hs) hh hin (fun _ _ _ h => Zb5 h) (fun c a w h => hQ c _ _ w h) rest.length listed a w inv (Region.free_spec hi hf) hr' hv (Grow.refl w)
  (h Qc _ w hQ hK ⟨σ, F, hat.put hd hx⟩ (inv.set hr' hin))
theorem DrawJ.only {i : Nat} {o : Oper} (hi : ops[i]? = some o) (hin : i < n) (hr : Region.ready .any ops listed = [i])
  (h : ∀ (Qc : Exit → Act → World → Prop) (next : Act → World → Prop) a w, (∀ s' a' w', DrawJ P X ops n rest (listed.setIfInBounds i true) K s' → Rep X s' a' w' → Grow w w' → next a' w') → Rep X s a w →
   if Region.wanted o (yielded ops a.tmps) then o.wp P a w next Qc else next (a.put o.dst undef) w) : DrawJ P X ops n ((i, false) :: rest) listed K s := by
 intro Qc a w hQ hK hrep inv
 refine ⟨by rw [hr]; simp, fun j hj => ?_⟩
 rw [hr, List.mem_singleton] at hj
 subst hj
 refine ⟨hin, ?_⟩
 have hj' : j ∈ Region.ready .any ops listed := by rw [hr]; simp
 have h1 := h Qc (fun a' w' => Grow w w' ∧ anyT P .any ops Qc n (fun listed a w => Region.seqB .any ops (ops.size - n) n listed = true ∧ wpList P ops Qc (ops.toList.drop n) a w) rest.length (listed.setIfInBounds j true) a' w' (Grow w)) a w
  (fun s' a' w' hd hr' hg => ⟨hg, Z86 (fun w2 h2 => hg.trans h2) _ _ _ _ (hd Qc a' w' hQ hK hr' (inv.set hj' hin))⟩) hrep
 unfold wpOp
 simp only [hi]
 split
 ·rename_i hw; rw [if_pos hw] at h1; exact .inl h1
 ·rename_i hw; rw [if_neg hw] at h1; exact h1
theorem Rep.drawn {a : Act} {w : World} (h : Rep X s a w) : Rep X s a { w with drawn := w.drawn + 1 } := by
 obtain ⟨σ, F, hr⟩ := h
 exact ⟨σ, F, hr.ext (Ext.drew w)⟩
end
end Go.Proofs.YtnehieeplbgaiacDoor.Eng
set_option linter.unusedVariables false
set_option linter.unusedSimpArgs false
namespace Go.Proofs.YtnehieeplbgaiacDoor.Eng
open Go Go.RowKit
def nthOp : List Oper → Nat → Option Oper
 | [], _ => none
 | o :: _, 0 => some o
 | _ :: r, j + 1 => nthOp r j
theorem nthOp_eq : ∀ (l : List Oper) (j : Nat), nthOp l j = l[j]?
 | [], j => by simp [nthOp]
 | o :: r, 0 => by simp [nthOp]
 | o :: r, j + 1 => by simp [nthOp, nthOp_eq r j]
def Z7r {α : Type} : List α → Nat → List α
 | l, 0 => l
 | [], _ + 1 => []
 | _ :: r, j + 1 => Z7r r j
theorem Zab {α : Type} : ∀ (l : List α) (j : Nat), Z7r l j = l.drop j
 | l, 0 => by simp [Z7r]
 | [], j + 1 => by simp [Z7r]
 | o :: r, j + 1 => by simp [Z7r, Zab r j]
@[irreducible] def OWEDG (P : Program) (X : Ctx) (o : Oper) (K : St → Prop) (s : St) : Prop := opWPG P X o K s
theorem OWEDG.intro {P : Program} {X : Ctx} {o : Oper} {K : St → Prop} {s : St} (h : opWPG P X o K s) : OWEDG P X o K s := by unfold OWEDG; exact h
section
variable {P : Program} {T : Tab} {B : Book} {X : Ctx} {s s' : St} {ops : Array Oper} {n : Nat} {rest : List (Nat × Bool)} {listed : Array Bool} {K : St → Prop}
theorem DrawJ.from (h : ∀ a w, Rep X s a w → Rep X s' a w) (k : DrawJ P X ops n rest listed K s') : DrawJ P X ops n rest listed K s :=
 fun Qc a w hQ hK hr inv => k Qc a w hQ hK (h a w hr) inv
theorem Z3d {j d : Nat} {b : Bool} (hj : (ops[j]?).bind (·.dst) = some d) (hn : d < X.n) (hd : envGet s.env d = .v (.bool b)) {a : Act} {w : World} (hr : Rep X s a w) : yielded ops a.tmps j = some b := by
 obtain ⟨σ, F, hr⟩ := hr
 have hv : a.tmps.getD d undef = .bool b := RepV.val (hd ▸ hr.env d)
 have hlt : d < a.tmps.size := by rw [hr.size]; exact hn
 have : a.tmps[d]? = some (.bool b) := by
  rw [Array.getElem?_eq_getElem hlt]
  rw [Array.getD_eq_getD_getElem?, Array.getElem?_eq_getElem hlt] at hv
  exact congrArg some hv
 simp [yielded, hj, this]
theorem OWEDG.run {o : Oper} (h : OWEDG P X o K s) : opWPG P X o K s := by unfold OWEDG at h; exact h
theorem opWPG.mono {o : Oper} {K K' : St → Prop} (h : opWPG P X o K s) (hk : ∀ s, K s → K' s) : opWPG P X o K' s :=
 fun Qc next a w hn hr => h Qc next a w (fun s' a' w' h1 h2 h3 => hn s' a' w' (hk _ h1) h2 h3) hr
end
end Go.Proofs.YtnehieeplbgaiacDoor.Eng
set_option linter.unusedVariables false
set_option linter.unusedSimpArgs false
namespace Go.Proofs.YtnehieeplbgaiacDoor.Eng
open Go Go.RowKit
def Z14 (n : Nat) : AV → AV
 | .own id sz off len => if id < n then .own id sz off len else .any
 | .ptr id i sz j => if id < n then .ptr id i sz j else .any
 | .nm id k => if id < n then .nm id k else .any
 | x => x
theorem Z7k (n id : Nat) : idx (List.range n) id = if id < n then some id else none := by
 split
 ·rename_i h
  cases hi : idx (List.range n) id with
  | none => exact absurd (List.mem_range.2 h) (idx_none hi)
  | some k =>
   have := idx_some hi
   rw [List.getElem?_range (by have := (List.getElem?_eq_some_iff.1 this).1; simpa using this)] at this
   exact this
 ·rename_i h
  cases hi : idx (List.range n) id with
  | none => rfl
  | some k =>
   have := List.mem_of_getElem? (idx_some hi)
   exact absurd (List.mem_range.1 this) h
theorem Z56 (n : Nat) : Z14 n = Z1o (List.range n) := by
 funext x
 cases x with
 | own id sz off len => simp only [Z14, Z1o, Z7k]; split <;> rfl
 | ptr id i sz j => simp only [Z14, Z1o, Z7k]; split <;> rfl
 | nm id k => simp only [Z14, Z1o, Z7k]; split <;> rfl
 | _ => rfl
def St.trim (s : St) (n : Nat) : St := ⟨Zo (Z14 n) s.env, (s.heap.take n).map (AObj.sub (Z14 n))⟩
theorem Rep.trim {X : Ctx} {s : St} {a : Act} {w : World} {n : Nat} (hm : X.m ≤ n) (hn : n ≤ s.heap.length) (h : Rep X s a w) : Rep X (s.trim n) a w := by
 obtain ⟨σ, F, hr⟩ := h
 have hsel : ∀ id, id < n → selσ (List.range n) σ id = σ id := fun id h => by simp [selσ, List.getElem?_range h]
 refine ⟨selσ (List.range n) σ, F, hr.defers, hr.size, fun i => ?_, ?_, hr.keep, fun id g h => ?_, hr.fnew, fun id hid => ?_, by simp [St.trim, hn, hm]⟩
 ·simp only [St.trim, Zn, Z56]
  exact (hr.env i).sel
 ·have h1 := hr.heap.sel (keep := List.range n) List.nodup_range (fun i hi => Nat.lt_of_lt_of_le (List.mem_range.1 hi) hn)
  have h2 : (s.trim n).heap = Z1r (List.range n) s.heap := by
   simp only [St.trim, Z56, Z1r]
   apply List.ext_getElem?
   intro i
   simp only [List.getElem?_map, List.getElem?_take]
   by_cases hi : i < n
   ·rw [if_pos hi, List.getElem?_range hi, List.getElem?_eq_getElem (Nat.lt_of_lt_of_le hi hn)]
    simp [List.getElem?_eq_getElem (Nat.lt_of_lt_of_le hi hn)]
   ·rw [if_neg hi, List.getElem?_eq_none (by simpa using hi)]
    rfl
  rw [h2]; exact h1
 ·obtain ⟨i, _, h1⟩ := Z2o h
  exact hr.own _ _ h1
 ·rw [hsel id (Nat.lt_of_lt_of_le hid hm)]
  exact hr.stab id hid
theorem AV.le_of_eq {x y : AV} (h : x = y) : AV.le x y := h ▸ .refl x
section
variable {P : Program} {T : Tab} {B : Book} {X : Ctx} {s : St} {Q : Exit → St → Prop} {c : Code} {n m : Nat}
theorem WP.from {s' : St} (h : ∀ a w, Rep X s a w → Rep X s' a w) (k : WP P X c Q s') : WP P X c Q s := fun a w hr => k a w (h a w hr)
def nilOwn (s : St) (d : Nat) (e sz : Nat) : St := ⟨(d, .own s.heap.length sz 0 0) :: s.env, s.heap ++ [.row e sz []]⟩
theorem Rep.nilOwn {a : Act} {w : World} {d e sz : Nat} (hd : envGet s.env d = .v (.slice none 0 0)) (h : Rep X s a w) : Rep X (Eng.nilOwn s d e sz) a w := by
 obtain ⟨σ, F, hr⟩ := h
 have hv : a.tmps.getD d undef = .slice none 0 0 := RepV.val (hd ▸ hr.env d)
 have h1 := hr.newNil e sz
 refine ⟨_, F, ⟨h1.defers, h1.size, fun i => ?_, h1.heap, h1.keep, h1.own, h1.fnew, h1.stab, h1.hm⟩⟩
 simp only [Eng.nilOwn, envGet]
 split
 ·rename_i e; subst e; rw [hv]; exact .own0 _ _ (Z0 _ _ _)
 ·exact h1.env i
end
def FPost (P : Program) (f : Nat) (args : List AV) (post : AV → Prop) : Prop := FSpec P f [] args (fun r h => post r ∧ h = [])
abbrev FPure (P : Program) (f : Nat) (args : List AV) (R : AV) : Prop := FPost P f args (fun r => r = R)
theorem WP.monoR {P : Program} {X : Ctx} {c : Code} {Q Q' : Exit → St → Prop} {s : St} (h : WP P X c Q s) (hq : ∀ e s, Q e s → ∃ s', (∀ a w, Rep X s a w → Rep X s' a w) ∧ Q' e s') : WP P X c Q' s :=
 fun a w hr => wpIn_mono (h a w hr) fun e a w ⟨s, h1, h2⟩ => let ⟨s', h3, h4⟩ := hq e s h1; ⟨s', h4, h3 a w h2⟩
theorem FSpec.of_WP' {P : Program} {T : Tab} (hT : Zh P T) {f : Nat} {fn : Func} {c : Code} (hf : P.funcs[f]? = some fn) (hb : fn.body = some c) {h0 : List AObj} {args : List AV} {post : AV → List AObj → Prop}
  (h : ∀ X : Ctx, X.n = args.length + (fn.ntmps - args.length) → X.m = h0.length → X.ro = none → X.rf = false → WP P X c (Qret T fn h0.length post) ⟨Z1d 0 args, h0⟩) : FSpec P f h0 args post := by
 intro σ F w vs hh hl hargs
 let X : Ctx := ⟨args.length + (fn.ntmps - args.length), w, ownB σ, F, h0.length, σ, none, false⟩
 refine calls_of_wp hf hb ?_
 have hrep : RepAt X σ F ⟨Z1d 0 args, h0⟩ { tmps := vs.toArray ++ Array.replicate (fn.ntmps - vs.toArray.size) undef, defers := [] } w := by
  refine ⟨rfl, by simp [X, hl], fun i => ?_, hh, Keep.refl _ _, fun id g h => .inl ⟨id, h⟩, fun b hb => .inl hb, fun id _ => .inl rfl, Nat.le_refl _⟩
  rw [envGet_enum, if_pos (Nat.zero_le _), Nat.sub_zero]
  cases hx : args[i]? with
  | none => exact .f _ _ (.any _)
  | some x =>
   have hlt : i < vs.length := by have := (List.getElem?_eq_some_iff.1 hx).1; omega
   have : (vs.toArray ++ Array.replicate (fn.ntmps - vs.toArray.size) undef).getD i undef = vs[i] := by
    rw [Array.getD_eq_getD_getElem?, Array.getElem?_append_left (by simpa using hlt)]
    simp [hlt]
   rw [this]
   exact hargs i x _ hx (List.getElem?_eq_getElem hlt)
 refine Code.wp_mono' ((WP.wide rfl).1 (h X rfl rfl rfl rfl _ _ ⟨σ, F, hrep⟩)) ?_
 have fin : ∀ s a w', Ret T fn h0.length post s → Rep X s a w' → a.defers = [] ∧ ∃ v, (results fn a.tmps).run P w' = .ok v w' ∧ ∃ ret h' σ' F' rv, post ret h' ∧ Ending.returned v = .returned rv ∧ RepV σ' F' w' ret rv ∧ HRep σ' F' w' h' ∧ Keep (ownB σ) w w' ∧
   (∀ id g, hasB σ' id g → ownB σ g ∨ w.heap.size ≤ g) ∧ (∀ b, F' b → F b ∨ ownB σ b ∨ w.heap.size ≤ b) ∧ (∀ id, id < h0.length → σ' id = σ id ∨ σ' id = none) ∧ h0.length ≤ h'.length := by
  rintro s a w' hret ⟨σ', F', hr⟩
  unfold Ret at hret
  split at hret
  ·rename_i c xs hres
   obtain ⟨hc, extra, hnd, hin, ret, hle, hpost⟩ := hret
   obtain ⟨v, hv, hrv⟩ := Z8j hT hr hres hc
   have hin' : ∀ i ∈ List.range h0.length ++ extra, i < s.heap.length := fun i hi => by
    rcases List.mem_append.1 hi with h1 | h1
    ·have := hr.hm; have h2 := List.mem_range.1 h1; exact Nat.lt_of_lt_of_le h2 this
    ·exact hin i h1
   refine ⟨hr.defers, v, hv, ret, _, selσ (List.range h0.length ++ extra) σ', F', v, hpost, rfl, RepV.le hle hrv.sel, hr.heap.sel hnd hin', hr.keep, fun id g hs => ?_, hr.fnew, fun id hid => ?_, by simp [Z1r]⟩
   ·obtain ⟨i, _, h1⟩ := Z2o hs
    exact hr.own _ _ h1
   ·have : selσ (List.range h0.length ++ extra) σ' id = σ' id := by
     simp [selσ, List.getElem?_append_left (show id < (List.range h0.length).length by simpa using hid), List.getElem?_range hid]
    rw [this]
    exact hr.stab id hid
  ·exact hret.elim
 rintro e a w' ⟨s, hq, hr⟩
 cases e with
 | normal => exact fin s a w' hq hr
 | ret => exact fin s a w' hq hr
 | _ => exact hq.elim
section
variable {P : Program} {T : Tab} {B : Book} {X : Ctx} {s : St} {o : Oper} {K : St → Prop}
end
end Go.Proofs.YtnehieeplbgaiacDoor.Eng
set_option linter.unusedVariables false
namespace Go.Proofs.YtnehieeplbgaiacDoor.Eng
open Go Go.RowKit
section
variable {P : Program} {T : Tab} {B : Book} {X : Ctx} {n m : Nat} {Q : Exit → St → Prop} {K : St → Prop} {v : List (Nat × AV)} {h : List AObj}
end
end Go.Proofs.YtnehieeplbgaiacDoor.Eng
namespace Go.Proofs.YtnehieeplbgaiacDoor.Eng
open Go Go.RowKit
end Go.Proofs.YtnehieeplbgaiacDoor.Eng
namespace Go.Proofs.YtnehieeplbgaiacDoor.Eng
open Go Go.RowKit
end Go.Proofs.YtnehieeplbgaiacDoor.Eng
namespace Go.Proofs.YtnehieeplbgaiacDoor.Eng
end Go.Proofs.YtnehieeplbgaiacDoor.Eng
set_option linter.unusedVariables false
set_option linter.unusedSimpArgs false
namespace Go.Proofs.YtnehieeplbgaiacDoor.Eng
open Go Go.RowKit
def Za8 (T : Tab) (ft : Nat) : AV → AV → Option Bool
 | .v (.int k a), .v (.int k' b) => match T ft with
  | some ⟨.int _, 1, _, _⟩ => if k = k' then some (a == b) else none
  | _ => none
 | .v (.bool a), .v (.bool b) => match T ft with
  | some ⟨.bool, 1, _, _⟩ => some (a == b)
  | _ => none
 | .v (.string a), .v (.string b) => match T ft with
  | some ⟨.str, 1, _, _⟩ => some (a == b)
  | _ => none
 | _, _ => none
def Z51 (T : Tab) : List (Nat × Nat) → List AV → List AV → Option Bool
 | [], _, _ => some true
 | (off, ft) :: r, xs, ys => match Za8 T ft ((xs[off]?).getD .any) ((ys[off]?).getD .any), Z51 T r xs ys with
  | some p, some q => some (p && q)
  | _, _ => none
def eqB (P : Program) (t : Nat) : Bool := !P.stoodInHeld t && !P.eqGuardType P.depth t && (P.fieldsOf t).toList.all (fun f => f.name != "_")
section
variable {P : Program} {T : Tab} {X : Ctx} {σ : Nat → Option Blk} {F : Nat → Prop} {s : St} {a : Act} {w : World} {o : Oper} {K : St → Prop}
theorem Zhu (hT : Zh P T) {ft : Nat} {u v : Value} {q : Bool} (h : Za8 T ft (.v u) (.v v) = some q) (d : Nat) : (Op.equalIn (d + 1) ft u v).run P w = .ok q w := by
 unfold Za8 at h
 split at h
 ·rename_i e1 e2
  cases e1; cases e2
  split at h
  ·rename_i ht
   split at h
   ·rename_i hk
    subst hk
    cases h
    simp [Op.equalIn, run_underlying (hT _ _ ht).kind]
   ·cases h
  ·cases h
 ·rename_i e1 e2
  cases e1; cases e2
  split at h
  ·rename_i ht
   cases h
   simp [Op.equalIn, run_underlying (hT _ _ ht).kind]
  ·cases h
 ·rename_i e1 e2
  cases e1; cases e2
  split at h
  ·rename_i ht
   cases h
   simp [Op.equalIn, run_underlying (hT _ _ ht).kind]
  ·cases h
 ·cases h
theorem eqOne_v {ft : Nat} {x y : AV} {q : Bool} (h : Za8 T ft x y = some q) : (∃ u, x = .v u) ∧ (∃ v, y = .v v) ∧ ∃ i, T ft = some i ∧ i.size = 1 ∧ i.k.agg = false := by
 unfold Za8 at h
 split at h
 ·split at h
  ·rename_i ht; exact ⟨⟨_, rfl⟩, ⟨_, rfl⟩, _, ht, rfl, rfl⟩
  ·cases h
 ·split at h
  ·rename_i ht; exact ⟨⟨_, rfl⟩, ⟨_, rfl⟩, _, ht, rfl, rfl⟩
  ·cases h
 ·split at h
  ·rename_i ht; exact ⟨⟨_, rfl⟩, ⟨_, rfl⟩, _, ht, rfl, rfl⟩
  ·cases h
 ·cases h
theorem Z6m (hT : Zh P T) {xs ys : List AV} {us vs : List Value} (hx : ∀ (j : Nat) (u : Value), xs[j]? = some (.v u) → us[j]? = some u) (hy : ∀ (j : Nat) (u : Value), ys[j]? = some (.v u) → vs[j]? = some u) (d : Nat) :
  ∀ (fl : List Field) (q : Bool), fl.all (fun f => f.name != "_") = true → Z51 T (fl.map fun f => (f.offset, f.type)) xs ys = some q → (Op.eqFields (d + 1) us.toArray vs.toArray fl).run P w = .ok q w
 | [], q, hn, h => by simp [Z51] at h; subst h; simp [Op.eqFields]
 | f :: fl, q, hn, h => by
  simp only [List.map_cons, Z51] at h
  split at h
  ·rename_i p r hp hr
   cases h
   simp only [List.all_cons, Bool.and_eq_true] at hn
   obtain ⟨⟨u, hu⟩, ⟨v, hv⟩, i, hi, h1, h2⟩ := eqOne_v hp
   have hgx : us[f.offset]? = some u := by
    cases hq : xs[f.offset]? with
    | none => rw [hq] at hu; cases hu
    | some z => rw [hq] at hu; simp at hu; subst hu; exact hx _ _ hq
   have hgy : vs[f.offset]? = some v := by
    cases hq : ys[f.offset]? with
    | none => rw [hq] at hv; cases hv
    | some z => rw [hq] at hv; simp at hv; subst hv; exact hy _ _ hq
   have hpx : (part f.type us.toArray f.offset).run P w = .ok u w := by simp [part, (hT _ _ hi).agg_run, h2, hgx]
   have hpy : (part f.type vs.toArray f.offset).run P w = .ok v w := by simp [part, (hT _ _ hi).agg_run, h2, hgy]
   rw [hu, hv] at hp
   have hn' : f.name ≠ "_" := by simpa using hn.1
   have ih := Z6m hT hx hy d fl r hn.2 hr
   rw [Op.eqFields]
   simp only [if_pos hn', Sem.run_bind, hpx, hpy, Zhu hT hp d, Result.andThen_ok]
   cases p
   ·simp
   ·simpa using ih
  ·cases h
theorem op_ifc {op : BinOp} {t t' : Nat} {y : Operand} {b : Bool} (hop : eqOp op = some b) (ho : o.op = .binOp op t y (.const .nilIface) t') {ms : Array (String × TypeId)} (hu : P.underlying t = some (.interface ms)) (hy : s.ev y = .v .nilIface) (hd : dOK X.n o.dst) (hK : K (s.put o.dst (.v (.bool (!b))))) : opWP P X o K s := by
 rintro Qc next a w hn ⟨σ, F, hr⟩
 have hvy : a.eval y = .nilIface := RepV.val (hy ▸ hr.ev y)
 have hvz : a.eval (.const .nilIface) = .nilIface := rfl
 have hq : (Op.equal t .nilIface .nilIface).run P w = .ok true w := by
  have h4 : ∀ d, (Op.equalIn (d + 1) t .nilIface .nilIface).run P w = .ok true w := fun d => by simp [Op.equalIn, run_underlying hu]
  exact h4 9999
 have hg : ∀ op : BinOp, (eqGuard op t y (.const .nilIface) .nilIface .nilIface).run P w = .ok () w := fun op => by
  cases op <;> simp [eqGuard]
 have hg := hg op
 have hex : (execOp a.eval o).run P w = .ok (.value (.bool (!b))) w := by
  unfold eqOp at hop
  split at hop
  ·rename_i e; subst e; cases hop
   simp only [execOp, ho, hvy, hvz, Sem.run_bind, hg, Result.andThen_ok, binOp, hq, Sem.run_pure]
   rfl
  ·split at hop
   ·rename_i e; subst e; cases hop
    simp only [execOp, ho, hvy, hvz, Sem.run_bind, hg, Result.andThen_ok, binOp, hq, Sem.run_pure]
   ·cases hop
 unfold Oper.wp
 rw [hex]
 exact hn _ _ _ hK ⟨σ, F, hr.put hd (.f _ _ (.v _))⟩
theorem op_eqs (hT : Zh P T) {op : BinOp} {t t' : Nat} {y z : Operand} {b : Bool} (hop : eqOp op = some b) (ho : o.op = .binOp op t y z t') {fs : List (Nat × Nat)} {n m : Nat} {zv : Value} (ht : T t = some ⟨.struct fs, n, m, zv⟩) (hE : eqB P t = true) {xs ys : List AV} (hx : s.ev y = .agg xs) (hy : s.ev z = .agg ys)
  {q : Bool} (he : Z51 T fs xs ys = some q) (hd : dOK X.n o.dst) (hK : K (s.put o.dst (.v (.bool (q != b))))) : opWP P X o K s := by
 rintro Qc next a w hn ⟨σ, F, hr⟩
 obtain ⟨us, hu, hul, _, huc⟩ := RepV.aggv (hx ▸ hr.ev y)
 obtain ⟨vs, hv, hvl, _, hvc⟩ := RepV.aggv (hy ▸ hr.ev z)
 obtain ⟨ar, hur, hm⟩ := (hT _ _ ht).kind
 subst hm
 simp only [eqB, Bool.and_eq_true, Bool.not_eq_true'] at hE
 obtain ⟨⟨h1, h2⟩, h3⟩ := hE
 have hf : P.fieldsOf t = ar := by simp [Program.fieldsOf, hur]
 have get : ∀ {xs : List AV} {us : List Value}, xs.length = us.length → (∀ (j : Nat) (x : AV) (u : Value), xs[j]? = some x → us[j]? = some u → RepV σ F w x u) → ∀ (j : Nat) (u : Value), xs[j]? = some (.v u) → us[j]? = some u := fun {xs us} hl hc j u hj => by
  have hlt : j < us.length := by have := (List.getElem?_eq_some_iff.1 hj).1; omega
  rw [List.getElem?_eq_getElem hlt]
  exact congrArg some (RepV.val (hc j _ _ hj (List.getElem?_eq_getElem hlt)))
 have hrun : (Op.equal t (.agg us.toArray) (.agg vs.toArray)).run P w = .ok q w := by
  have h4 : ∀ d, (Op.equalIn (d + 1 + 1) t (.agg us.toArray) (.agg vs.toArray)).run P w = .ok q w := fun d => by
   rw [run_equalIn_struct (P := P) (w := w) _ _ _ _ (by rw [hf]; exact hur) h1, hf]
   exact Z6m hT (get hul huc) (get hvl hvc) d ar.toList q (by rw [← hf]; exact h3) he
  exact h4 9998
 have hg0 : ∀ op : BinOp, (eqGuard op t y z (.agg us.toArray) (.agg vs.toArray)).run P w = .ok () w := fun op => by
  cases op <;> simp [eqGuard, h2]
 have hg := hg0 op
 have hex : (execOp a.eval o).run P w = .ok (.value (.bool (q != b))) w := by
  unfold eqOp at hop
  split at hop
  ·rename_i e; subst e; cases hop
   simp only [execOp, ho, hu, hv, Sem.run_bind, hg, Result.andThen_ok, binOp, hrun, Sem.run_pure]
   simp
  ·split at hop
   ·rename_i e; subst e; cases hop
    simp only [execOp, ho, hu, hv, Sem.run_bind, hg, Result.andThen_ok, binOp, hrun, Sem.run_pure]
    simp
   ·cases hop
 unfold Oper.wp
 rw [hex]
 exact hn _ _ _ hK ⟨σ, F, hr.put hd (.f _ _ (.v _))⟩
end
end Go.Proofs.YtnehieeplbgaiacDoor.Eng
set_option linter.unusedVariables false
set_option linter.unusedSimpArgs false
namespace Go.Proofs.YtnehieeplbgaiacDoor.Eng
open Go Go.RowKit
theorem beqB (a b : ByteArray) : (a == b) = decide (a = b) := by
 rw [Bool.eq_iff_iff, MapKept.bytes_beq]; simp
theorem Z4e (b : ByteArray) : ∀ (l : List MapEntry) (es : List (ByteArray × Value)) (i : Nat), l.map Z9j = es.map Z9i →
  (Instr.findNow .string (.string b) l i = some none ∧ Z3k b es = none ∧ ∀ v, Z7e b v es = es ++ [(b, v)]) ∨
  ∃ j e, Instr.findNow .string (.string b) l i = some (some (i + j, e.val)) ∧ Z3k b es = some e.val ∧ l[j]? = some e ∧ e.key = .string b ∧ ∀ v, (l.modify j fun e => { e with key := .string b, val := v }).map Z9j = (Z7e b v es).map Z9i
 | [], [], i, _ => .inl ⟨rfl, rfl, fun v => rfl⟩
 | [], p :: es, i, h => by simp at h
 | e :: l, [], i, h => by simp at h
 | e :: l, p :: es, i, h => by
  simp only [List.map_cons, List.cons.injEq] at h
  obtain ⟨h1, h2⟩ := h
  have hk : e.key = .string p.1 := congrArg Prod.fst h1
  have hv : e.val = p.2 := congrArg Prod.snd h1
  have hs : Instr.sameNow .string (.string b) e.key = some (decide (b = p.1)) := by rw [hk]; simp only [Instr.sameNow, beqB]
  simp only [Instr.findNow, hs, Z3k, Z7e]
  cases hd : decide (b = p.1) with
  | true =>
   have hb := of_decide_eq_true hd
   exact .inr ⟨0, e, rfl, by simp [hv], rfl, by rw [hk, hb], fun v => by simp [Z9j, Z9i, h2]⟩
  | false =>
   rcases Z4e b l es (i + 1) h2 with ⟨h3, h4, h5⟩ | ⟨j, e', h3, h4, h5, h6, h7⟩
   ·exact .inl ⟨h3, h4, fun v => by simp [h5]⟩
   ·refine .inr ⟨j + 1, e', ?_, h4, by simpa using h5, h6, fun v => ?_⟩
    ·simp only [h3]; congr 3; omega
    ·simp only [List.modify_succ_cons, List.map_cons, h7, h1]
def Z55 (v : Value) : AV := match v with
 | .agg vs => (match vs.toList.all Value.oneCell' with
  | true => .agg (vs.toList.map AV.v)
  | false => .v v)
 | _ => .v v
def lkAV (ok : Bool) (q : Option Value) (z : Value) : AV := match ok with
 | true => .tup [Z55 (q.getD z), .v (.bool q.isSome)]
 | false => Z55 (q.getD z)
section
variable {P : Program} {T : Tab} {X : Ctx} {σ σ' : Nat → Option Blk} {F F' : Nat → Prop} {s s' : St} {a : Act} {w w' : World} {o : Oper} {c : Prop} {x : AV} {v : Value} {K : St → Prop}
theorem Zd2 {t : Nat} (ho : o.op = .makeMap t none) (hd : dOK X.n o.dst)
  (hK : K (St.put { s with heap := s.heap ++ [.mapo []] } o.dst (.nm s.heap.length []))) : opWPG P X o K s := by
 refine opWPG.mem (fun σ F a w hr => ?_) hd
 refine ⟨.map (some w.heap.size), w.alloc (.map #[] 0), _, F, _, _, ?_, Grow.alloc w _, (hr.ext (Ext.alloc w (.map #[] 0))).new (k := .ext (fun h => h = w.heap.size) fun _ => .map (some w.heap.size)) (ob := .mapo []) ?_ (fun g hg => ?_), ?_, hK⟩
 ·simp only [execOp, ho, Option.map_none, Sem.run_bind, run_makeMap, Result.andThen_ok]
  rfl
 ·exact ⟨w.heap.size, #[], 0, Z0 _ _ _, heap_alloc_new w _, .nil⟩
 ·have e1 : g = w.heap.size := hg
  subst e1
  refine ⟨by simp, fun hF => ?_, hr.keep.size, fun id h => ?_⟩
  ·have := hr.heap.flt _ hF; omega
  ·have := (hr.heap.lt _ _ h).1; omega
 ·exact .nm s.heap.length [] _ _ (Z0 _ _ _) rfl
theorem Zk6 (hr : RepAt X σ F s a w) {y : Operand} {id : Nat} {k : List Nat} (hy : s.ev y = .nm id k) {es : List (ByteArray × Value)} (hq : s.heap[id]? = some (.mapo es)) :
  ∃ g arr clock, σ id = some (.ext (fun h => h = g) fun _ => .map (some g)) ∧ a.eval y = .map (some g) ∧ w.heap[g]? = some (.map arr clock) ∧ MapIs arr clock es := by
 obtain ⟨g, arr, clock, h1, h2, h3⟩ := hr.heap.obj id _ hq
 obtain ⟨gs, V, h4, h5⟩ := RepV.nmv (hy ▸ hr.ev y)
 rw [h1] at h4
 cases h4
 exact ⟨g, arr, clock, h1, h5, h2, h3⟩
theorem RepV.vAV (v : Value) : RepV σ F w (Z55 v) v := by
 unfold Z55
 split
 ·rename_i vs
  split
  ·rename_i h
   rw [List.all_eq_true] at h
   have h2 : RepV σ F w (.agg (vs.toList.map AV.v)) (.agg vs.toList.toArray) := .agg _ vs.toList (by simp) h (fun j x u hx hu => by
    rw [List.getElem?_map, hu] at hx
    cases hx
    exact .f _ _ (.v _))
   simpa using h2
  ·exact .f _ _ (.v _)
 ·exact .f _ _ (.v _)
theorem RepV.ofValAV {v y : Value} (h : RepV σ F w (Z55 v) y) : y = v := by
 unfold Z55 at h
 split at h
 ·rename_i vs
  split at h
  ·have key : ∀ us : List Value, us.length = vs.toList.length → (∀ (j : Nat) (u u' : Value), vs.toList[j]? = some u → us[j]? = some u' → u' = u) → us = vs.toList := fun us hl hj => by
    apply List.ext_getElem hl
    intro j h1 h2
    exact hj j _ _ (List.getElem?_eq_getElem h2) (List.getElem?_eq_getElem h1)
   cases h with
   | agg _ us hl h1 h2 =>
    rw [key us (by simpa using hl.symm) (fun j u u' hu hu' => RepV.val (h2 j (.v u) u' (by rw [List.getElem?_map, hu]; rfl) hu'))]
   | f _ _ h => cases h
  ·exact RepV.val h
 ·exact RepV.val h
theorem RepV.tup2' (x y : Value) : RepV σ F w (.tup [Z55 x, .v y]) (.tuple #[x, y]) := by
 refine .tup _ [x, y] rfl (fun j a b ha hb => ?_)
 match j with
 | 0 => simp at ha hb; subst ha hb; exact RepV.vAV _
 | 1 => simp at ha hb; subst ha hb; exact .f _ _ (.v _)
 | j + 2 => simp at ha
theorem Zf4 {t kt et : Nat} {y z : Operand} {ok : Bool} (ho : o.op = .lookup t y z ok) (hm : P.underlying t = some (.map kt et)) (hkt : P.underlying kt = some .string) {i : TI} (hi : TIOk P et i)
  {id : Nat} {k : List Nat} (hy : s.ev y = .nm id k) {b : ByteArray} (hz : s.ev z = .v (.string b)) {es : List (ByteArray × Value)} (hq : s.heap[id]? = some (.mapo es)) (hd : dOK X.n o.dst)
  (hK : K (s.put o.dst (lkAV ok (Z3k b es) i.zero))) : opWPG P X o K s := by
 refine opWPG.val (fun σ F a w hr => ?_) hd hK
 obtain ⟨g, arr, clock, h1, h2, h3, hmi⟩ := Zk6 hr hy hq
 obtain ⟨⟨es0, h4, hp0⟩, hup, _, _⟩ := hmi
 rw [← Z8l hp0 hup.nodup]
 have hz' : a.eval z = .string b := RepV.val (hz ▸ hr.ev z)
 have hck := MapKept.run_checkKey (P := P) (w := w) (k := .string b) hkt trivial arr.isEmpty 9999
 have hzr := fun w => (hi.zero_run : (zeroValue et).run P w = _)
 rcases Z4e b arr.toList es0 0 h4 with ⟨h5, h6, _⟩ | ⟨j, e, h5, h6, _⟩
 ·have hf := MapKept.run_findKey (P := P) (w := w) hkt h5
  cases ok
  ·refine ⟨i.zero, ?_, by rw [h6]; exact RepV.vAV _⟩
   simp [execOp, ho, h2, hz', Instr.lookup, run_underlying hm, MapKept.run_getObj_map h3, hck, hf, hzr, Sem.run_bind, Result.andThen]
  ·refine ⟨.tuple #[i.zero, .bool false], ?_, by rw [h6]; exact RepV.tup2' _ _⟩
   simp [execOp, ho, h2, hz', Instr.lookup, run_underlying hm, MapKept.run_getObj_map h3, hck, hf, hzr, Sem.run_bind, Result.andThen]
 ·have hf := MapKept.run_findKey (P := P) (w := w) hkt h5
  cases ok
  ·refine ⟨e.val, ?_, by rw [h6]; exact RepV.vAV _⟩
   simp [execOp, ho, h2, hz', Instr.lookup, run_underlying hm, MapKept.run_getObj_map h3, hck, hf, hzr, Sem.run_bind, Result.andThen]
  ·refine ⟨.tuple #[e.val, .bool true], ?_, by rw [h6]; exact RepV.tup2' _ _⟩
   simp [execOp, ho, h2, hz', Instr.lookup, run_underlying hm, MapKept.run_getObj_map h3, hck, hf, hzr, Sem.run_bind, Result.andThen]
theorem RepF.mpv {es : List (ByteArray × Value)} (h : RepF F w (.mp es) v) : (es = [] ∧ v = .map none) ∨ ∃ g arr clock, v = .map (some g) ∧ w.heap[g]? = some (.map arr clock) ∧ MapIs arr clock es := by
 cases h with
 | mp0 => exact .inl ⟨rfl, rfl⟩
 | mp _ g arr clock hF hg hm => exact .inr ⟨g, arr, clock, rfl, hg, hm⟩
theorem Zf5 {t kt et : Nat} {y z : Operand} {ok : Bool} (ho : o.op = .lookup t y z ok) (hm : P.underlying t = some (.map kt et)) (hkt : P.underlying kt = some .string) {i : TI} (hi : TIOk P et i)
  {es : List (ByteArray × Value)} (hy : s.ev y = .mp es) {b : ByteArray} (hz : s.ev z = .v (.string b)) (hd : dOK X.n o.dst)
  (hK : K (s.put o.dst (lkAV ok (Z3k b es) i.zero))) : opWPG P X o K s := by
 refine opWPG.val (fun σ F a w hr => ?_) hd hK
 have hz' : a.eval z = .string b := RepV.val (hz ▸ hr.ev z)
 have hzr := fun w => (hi.zero_run : (zeroValue et).run P w = _)
 have hyv : RepF F w (.mp es) (a.eval y) := (hy ▸ hr.ev y).toF rfl
 rcases RepF.mpv hyv with ⟨rfl, h2⟩ | ⟨g, arr, clock, h2, h3, hmi⟩
 ·have hck := MapKept.run_checkKey (P := P) (w := w) (k := .string b) hkt trivial true 9999
  have hf0 : (Instr.findKey kt (.string b) []).run P w = .ok none w := by
   have := MapKept.run_findKey (P := P) (w := w) (k := .string b) (l := []) (a := none) hkt (by rfl)
   exact this
  cases ok
  ·refine ⟨i.zero, ?_, RepV.vAV _⟩
   simp [execOp, ho, h2, hz', hf0, Instr.lookup, run_underlying hm, hck, hzr, Sem.run_bind, Result.andThen]
  ·refine ⟨.tuple #[i.zero, .bool false], ?_, RepV.tup2' _ _⟩
   simp [execOp, ho, h2, hz', hf0, Instr.lookup, run_underlying hm, hck, hzr, Sem.run_bind, Result.andThen]
 ·obtain ⟨⟨es0, h4, hp0⟩, hup, _, _⟩ := hmi
  rw [← Z8l hp0 hup.nodup]
  have hck := MapKept.run_checkKey (P := P) (w := w) (k := .string b) hkt trivial arr.isEmpty 9999
  rcases Z4e b arr.toList es0 0 h4 with ⟨h5, h6, _⟩ | ⟨j, e, h5, h6, _⟩
  ·have hf := MapKept.run_findKey (P := P) (w := w) hkt h5
   cases ok
   ·refine ⟨i.zero, ?_, by rw [h6]; exact RepV.vAV _⟩
    simp [execOp, ho, h2, hz', Instr.lookup, run_underlying hm, MapKept.run_getObj_map h3, hck, hf, hzr, Sem.run_bind, Result.andThen]
   ·refine ⟨.tuple #[i.zero, .bool false], ?_, by rw [h6]; exact RepV.tup2' _ _⟩
    simp [execOp, ho, h2, hz', Instr.lookup, run_underlying hm, MapKept.run_getObj_map h3, hck, hf, hzr, Sem.run_bind, Result.andThen]
  ·have hf := MapKept.run_findKey (P := P) (w := w) hkt h5
   cases ok
   ·refine ⟨e.val, ?_, by rw [h6]; exact RepV.vAV _⟩
    simp [execOp, ho, h2, hz', Instr.lookup, run_underlying hm, MapKept.run_getObj_map h3, hck, hf, hzr, Sem.run_bind, Result.andThen]
   ·refine ⟨.tuple #[e.val, .bool true], ?_, by rw [h6]; exact RepV.tup2' _ _⟩
    simp [execOp, ho, h2, hz', Instr.lookup, run_underlying hm, MapKept.run_getObj_map h3, hck, hf, hzr, Sem.run_bind, Result.andThen]
theorem Zgl {t : Nat} {y : Operand} {args ts : Array _} (ho : o.op = .call { callee := .builtin .cap, args := args, argTypes := ts }) (ha : args.toList = [y]) (ht : ts.toList = [t]) {e : Nat} (hu : P.underlying t = some (.slice e)) (hy : s.ev y = .v (.slice none 0 0)) (hd : dOK X.n o.dst)
  (hK : K (s.put o.dst (.v (.int .i64 0)))) : opWPG P X o K s := by
 have ha' : args = #[y] := by rw [← Array.toArray_toList (xs := args), ha]
 have ht' : ts = #[t] := by rw [← Array.toArray_toList (xs := ts), ht]
 subst ha' ht'
 refine opWPG.val (fun σ F a w hr => ⟨.int .i64 0, ?_, .f _ _ (.v _)⟩) hd hK
 have he : a.eval y = .slice none 0 0 := RepV.val (hy ▸ hr.ev y)
 simp [execOp, ho, resolve, invoke, builtin, Builtin.cap_, run_underlying hu, he, goInt]
theorem Zd1 (hT : Zh P T) {t e : Nat} {y : Operand} {lo hi : Option Operand} (ho : o.op = .slice t y lo hi none) (hy : s.ev y = .v (.slice none 0 0)) {m p : Nat} {z : Value} (ht : T t = some ⟨.slice e, m, p, z⟩)
  {ti : TI} (hti : T e = some ti) {l h : Nat} (hb : bnds (lo.map s.ev) (hi.map s.ev) 0 = some (c, l, h)) (hc : c) (hd : dOK X.n o.dst)
  (hK : K (s.put o.dst (.v (.slice none 0 0)))) : opWPG P X o K s := by
 refine opWPG.val (fun σ F a w hr => ⟨.slice none 0 0, ?_, .f _ _ (.v _)⟩) hd hK
 have he : a.eval y = .slice none 0 0 := RepV.val (hy ▸ hr.ev y)
 obtain ⟨h1, h2, hrun⟩ := Z1a (P := P) hr hb hc true 0 (Nat.le_refl _)
 obtain rfl : h = 0 := by omega
 obtain rfl : l = 0 := by omega
 simp [execOp, ho, he, Z2z hT ht hti none 0 0 0 0 (hrun w)]
theorem Z6p {t t' e ty : Nat} (hu : P.underlying t = some (.slice e)) {k0 : IntKind} (hd : P.underlying t' = some (.int k0)) {i : TI} (hz : TIOk P e i) (hb : 0 < i.bytes) (hsz : 0 < i.size) {n : Int} {k : IntKind} (h0 : 0 < n) (hfit : n * i.bytes ≤ 140737488355328) :
  (Builtin.append_ #[t, t'] ty #[.slice none 0 0, .int k n]).run P w = .ok (.slice (some ⟨w.heap.size, 0, none⟩) n.toNat (grownCap w n.toNat 0 e))
   (w.drew.alloc (.cells (Builtin.zeroCells i.zero.cells n.toNat ++ Builtin.zeroCells i.zero.cells (grownCap w n.toNat 0 e - n.toNat)) e)) := by
 obtain ⟨q, hq, h1, h2, h3⟩ := hz.bytes_run (w := w)
 obtain ⟨q', hq', h1', h2', h3'⟩ := hz.bytes_run (w := w.drew)
 have hn1 : n ≤ 140737488355328 := by
  have : n * 1 ≤ n * (i.bytes : Int) := Int.mul_le_mul_of_nonneg_left (by omega) (by omega)
  omega
 have hwrap : IntKind.i64.wrap n = n := IntWalk.i64_in n (by omega)
 have hn : ¬ (n.toNat ≤ 0) := by omega
 have hfitN : (0 + n.toNat) * i.bytes ≤ 140737488355328 := by
  have : ((n.toNat * i.bytes : Nat) : Int) = n * i.bytes := by rw [Int.natCast_mul, Int.toNat_of_nonneg (by omega)]
  rw [Nat.zero_add]; omega
 have h48 : ¬ (281474976710656 < Builtin.nextslicecap n.toNat 0 * i.bytes) := by
  have := growslice_fits (need := 0 + n.toNat) (old := 0) (bytes := i.bytes) (by omega) hfitN
  rw [Nat.zero_add] at this
  omega
 have hbl : ¬ (281474976710656 < n * (i.bytes : Int)) := by omega
 have hb' : ¬ i.bytes = 0 := by omega
 have hmax : ¬ ((n.toNat : Int) > IntKind.i64.max) := by
  have : IntKind.i64.max = 9223372036854775807 := rfl
  omega
 have hns : ¬ (n.toNat * i.size = 0) := by
  intro h
  rcases Nat.mul_eq_zero.1 h with h | h <;> omega
 have hmark : ∀ b : Nat, (askRoom b).run P w.drew = .ok () w.drew := fun b => by unfold askRoom; split <;> simp [mark, Sem.run]
 have hfc : (Builtin.firstCells i.size 0 (.slice none 0 0)).run P w.drew = .ok #[] w.drew := by simp [Builtin.firstCells, Sem.run]
 simp [Builtin.append_, run_underlying hu, run_underlying hd, hz.size_run, asInt, asIntOf, hwrap, show ¬ n < 0 by omega, show ¬ n ≤ 0 by omega, show ¬ (9223372036854775807 < max n 0) by omega, hq, h1, hbl, hn, hmax, hb', h48, Question.forced, hmark, hfc, hz.zero_run, hns, newRow, newObj, Sem.run, grownCap, hq', h1', Result.andThen]
 rfl
theorem Z8b {t t' e : Nat} {y z : Operand} (ho : o.op = .call { callee := .builtin .append, args := #[y, z], argTypes := #[t, t'] }) (hT : Zh P T) {m p : Nat} {zv : Value} (ht : T t = some ⟨.slice e, m, p, zv⟩) {ti : TI} (hti : T e = some ti)
  {k0 : IntKind} {m' p' : Nat} {z' : Value} (ht' : T t' = some ⟨.int k0, m', p', z'⟩) (hy : s.ev y = .v (.slice none 0 0)) {k : IntKind} {n : Int} (hz : s.ev z = .v (.int k n)) (hsz : 0 < ti.size) (hby : 0 < ti.bytes) (h0 : 0 < n) (hfit : n * ti.bytes ≤ 140737488355328) (hd : dOK X.n o.dst)
  (hK : K (St.put { s with heap := s.heap ++ [.row e ti.size (List.replicate n.toNat (ti.zero.cells.toList.map .v))] } o.dst (.own s.heap.length ti.size 0 n.toNat))) : opWPG P X o K s := by
 refine opWPG.mem (fun σ F a w hr => ?_) hd
 have hzt := hT _ _ hti
 have hv : a.eval y = .slice none 0 0 := RepV.val (hy ▸ hr.ev y)
 have hv2 : a.eval z = .int k n := RepV.val (hz ▸ hr.ev z)
 have hr1 := Z6p (P := P) (w := w) (t := t) (t' := t') (ty := o.type) (hT _ _ ht).kind (hT _ _ ht').kind hzt hby hsz h0 hfit (k := k)
 have hn1 : n ≤ 140737488355328 := by
  have : n * 1 ≤ n * (ti.bytes : Int) := Int.mul_le_mul_of_nonneg_left (by omega) (by omega)
  omega
 have hge := grownCap_ge w n.toNat 0 e
 have hcm := grownCap_le_maxLen w n.toNat 0 e (by simp only [maxLen]; omega)
 let cur : Array Value := Builtin.zeroCells ti.zero.cells n.toNat ++ Builtin.zeroCells ti.zero.cells (grownCap w n.toNat 0 e - n.toNat)
 have hcs : cur.size = (0 + grownCap w n.toNat 0 e) * ti.size := by
  simp only [cur, Array.size_append, size_zeroCells, hzt.cells, ← Nat.add_mul]
  congr 1; omega
 have hrep : ∀ (w' : World) (i : Nat) (cs : List AV) (j : Nat) (x : AV), (List.replicate n.toNat (ti.zero.cells.toList.map AV.v))[i]? = some cs → cs[j]? = some x → ∃ u, cur[(0 + i) * ti.size + j]? = some u ∧ u.oneCell' = true ∧ RepF F w' x u := fun w' i cs j x hi hj => by
  have hi' : i < n.toNat := by have := (List.getElem?_eq_some_iff.1 hi).1; simpa using this
  rw [List.getElem?_replicate, if_pos hi'] at hi
  injection hi with hi
  subst hi
  rw [List.getElem?_map, Option.map_eq_some_iff] at hj
  obtain ⟨u, hu', rfl⟩ := hj
  have hj' : j < ti.size := by have := (List.getElem?_eq_some_iff.1 hu').1; rw [Array.length_toList, hzt.cells] at this; exact this
  have hlt : i * ti.size + j < n.toNat * ti.size := by
   have : (i + 1) * ti.size ≤ n.toNat * ti.size := Nat.mul_le_mul_right _ hi'
   rw [Nat.succ_mul] at this
   omega
  have hm : (i * ti.size + j) % ti.zero.cells.size = j := by rw [hzt.cells, Nat.mul_comm, Nat.mul_add_mod, Nat.mod_eq_of_lt hj']
  refine ⟨u, ?_, List.all_eq_true.1 hzt.one u (List.mem_of_getElem? hu'), .v u⟩
  rw [Nat.zero_add]
  have hj2 : j < ti.zero.cells.size := by rw [hzt.cells]; exact hj'
  have hget : ti.zero.cells[j]! = u := by
   rw [Array.getElem?_toList] at hu'
   rw [getElem!_pos ti.zero.cells j hj2]
   rw [Array.getElem?_eq_getElem hj2] at hu'
   injection hu'
  have hsz2 : (Builtin.zeroCells ti.zero.cells n.toNat).size = n.toNat * ti.size := by rw [size_zeroCells, hzt.cells]
  simp only [cur]
  rw [Array.getElem?_append_left (by rw [hsz2]; exact hlt)]
  simp only [Builtin.zeroCells, Array.getElem?_map, Array.getElem?_range]
  rw [if_pos (by rw [hzt.cells]; exact hlt)]
  simp only [Option.map_some, hm, hget]
 let w1 := w.drew.alloc (.cells cur e)
 have hE : Ext w w1 := ⟨rfl, rfl, rfl, by simp [w1], fun b hb _ => by
  have : (w.drew.alloc (.cells cur e)).heap[b]? = w.drew.heap[b]? := Below.heap_alloc w.drew _ b hb
  exact this⟩
 have hrun : (execOp a.eval o).run P w = .ok (.value (.slice (some ⟨w.heap.size, 0, none⟩) n.toNat (grownCap w n.toNat 0 e))) w1 := by
  simp [execOp, ho, resolve, invoke, builtin, hv, hv2, hr1, w1, cur]
 refine ⟨_, w1, upd σ s.heap.length (some (.at_ w.heap.size 0 (grownCap w n.toNat 0 e) n.toNat)), F, _, _, hrun, ⟨hE.size, fun b hb => hE.block b hb (fun h => h)⟩, (hr.ext hE).new ?_ (fun g hk => ?_), ?_, hK⟩
 ·exact .inr ⟨w.heap.size, 0, grownCap w n.toNat 0 e, cur, by rw [Z0]; simp, by simpa using hge, by simpa using hcm, heap_alloc_new w.drew _, hcs, fun cs hcs' => by rw [(List.mem_replicate.1 hcs').2]; simp [hzt.cells], hrep w1⟩
 ·have e1 : g = w.heap.size := hk
  subst e1
  refine ⟨by simp [w1], fun hF => ?_, hr.keep.size, fun id h => ?_⟩
  ·have := hr.heap.flt _ hF; omega
  ·have := (hr.heap.lt _ _ h).1; omega
 ·have := RepV.own (σ := upd σ s.heap.length (some (.at_ w.heap.size 0 (grownCap w n.toNat 0 e) n.toNat))) (F := F) (w := w1) s.heap.length ti.size 0 n.toNat w.heap.size 0 (grownCap w n.toNat 0 e) n.toNat (Z0 _ _ _) (by simp) hge
  simpa using this
theorem Zgt (l : List AObj) : l.map (AObj.sub _root_.id) = l := by
 have : AObj.sub _root_.id = (_root_.id : AObj → AObj) := by funext p; exact AObj.sub_id p
 rw [this, List.map_id]
theorem Zbg {t kt et : Nat} {y z q : Operand} (ho : o.op = .mapUpdate t y z q) (hm : P.underlying t = some (.map kt et)) (hkt : P.underlying kt = some .string)
  {id : Nat} {k : List Nat} (hy : s.ev y = .nm id k) {b : ByteArray} (hz : s.ev z = .v (.string b)) {u : Value} (hu : AV.le (s.ev q) (Z55 u)) {es : List (ByteArray × Value)} (hq : s.heap[id]? = some (.mapo es)) (hd : dOK X.n o.dst)
  (hK : K (St.put { s with heap := s.heap.set id (.mapo (Z3j b u es)) } o.dst .any)) : opWP P X o K s := by
 refine opWP.unit (fun σ F a w hr => ?_) hd
 obtain ⟨g, arr, clock, h1, h2, h3, hmi⟩ := Zk6 hr hy hq
 obtain ⟨es0, h4, hp0⟩ := hmi.1
 have hz' : a.eval z = .string b := RepV.val (hz ▸ hr.ev z)
 have hu' : a.eval q = u := RepV.ofValAV (RepV.le hu (hr.ev q))
 have hck := MapKept.run_checkKey (P := P) (w := w) (k := .string b) hkt trivial false 9999
 have hid : id < s.heap.length := (List.getElem?_eq_some_iff.1 hq).1
 have hupd : upd σ id (σ id) = σ := by
  funext i
  by_cases e : i = id
  ·subst e; exact Z0 _ _ _
  ·exact Z9 _ _ e
 have fin : ∀ (arr' : Array MapEntry) (clock' : Nat), MapIs arr' clock' (Z3j b u es) → (execOp a.eval o).run P w = .ok .skip { w with heap := w.heap.setIfInBounds g (.map arr' clock') } →
   ∃ w' σ' F' s', (execOp a.eval o).run P w = .ok .skip w' ∧ RepAt X σ' F' s' a w' ∧ K (s'.put o.dst .any) := by
  intro arr' clock' h5 h6
  obtain ⟨h7, h8⟩ := MapKept.heap_set (o' := .map arr' clock') h3
  have hown : hasB σ id g := ⟨_, h1, rfl⟩
  have hFF : ∀ b, F b → (w.heap.setIfInBounds g (.map arr' clock'))[b]? = w.heap[b]? := fun b hb => h8 b (fun e => (hr.heap.lt _ _ hown).2 (e ▸ hb))
  have hch := hr.change (w' := { w with heap := w.heap.setIfInBounds g (.map arr' clock') }) (F' := F) hid (k := σ id) (f := _root_.id) (ob := .mapo (Z3j b u es)) rfl rfl rfl (by simp) (fun g' _ hn => h8 g' (fun e => hn (e ▸ hown))) (fun _ h => h) (fun _ h => .inl h)
   (fun q g' hq' hg' => by
    have hb : hasB σ id g' := ⟨q, hq', hg'⟩
    exact ⟨by simpa using (hr.heap.lt _ _ hb).1, (hr.heap.lt _ _ hb).2, .inl hb⟩)
   (fun i sz off len y h => by rw [hupd]; exact h.mono (fun _ h => h) hFF)
   (fun i q sz j y h => by rw [hupd]; exact h.mono (fun _ h => h) hFF)
   (fun i q y h => by rw [hupd]; exact h.mono (fun _ h => h) hFF)
   (fun _ => .inl rfl) (by rw [hupd]; exact ⟨g, arr', clock', h1, h7, h5⟩)
  rw [Z7q, Zgt] at hch
  exact ⟨_, _, F, _, h6, hch, hK⟩
 rcases Z4e b arr.toList es0 0 h4 with ⟨h5, h6, h7⟩ | ⟨j, e, h5, h6, h7, h8, h9⟩
 ·have hf := MapKept.run_findKey (P := P) (w := w) hkt h5
  refine fin (arr.push { key := .string b, val := u, born := clock }) (clock + 1) ?_ ?_
  ·exact hmi.push h4 hp0 (h7 u)
  ·simp [execOp, ho, h2, hz', hu', Instr.mapUpdate, run_underlying hm, MapKept.run_getObj_map h3, hck, hf, MapKept.run_setObj_map _ h3, Sem.run_bind, Result.andThen]
 ·rw [Nat.zero_add] at h5
  have hf := MapKept.run_findKey (P := P) (w := w) hkt h5
  have hget : (Option.map (fun x : MapEntry => x.key) arr[j]?).getD (.string b) = .string b := by
   rw [← Array.getElem?_toList, h7]; simp [h8]
  have hstay : (Instr.keyThatStays (.string b) (.string b)).run P w = .ok (.string b) w := MapKept.run_keyThatStays (d := .string) trivial
  refine fin (arr.modify j fun e => { e with key := .string b, val := u }) clock ?_ ?_
  ·exact hmi.modify hp0 (h9 u)
  ·simp [execOp, ho, h2, hz', hu', Instr.mapUpdate, run_underlying hm, MapKept.run_getObj_map h3, hck, hf, hget, hstay, MapKept.run_setObj_map _ h3, Sem.run_bind, Result.andThen]
end
end Go.Proofs.YtnehieeplbgaiacDoor.Eng
set_option linter.unusedVariables false
set_option linter.unusedSimpArgs false
namespace Go.Proofs.YtnehieeplbgaiacDoor.Eng
open Go Go.RowKit
section
variable {P : Program} {T : Tab} {X : Ctx} {σ σ' : Nat → Option Blk} {F F' : Nat → Prop} {s s' : St} {a : Act} {w w' : World} {o : Oper} {c : Prop} {x : AV} {v : Value} {K : St → Prop}
theorem RepAt.change2 (hr : RepAt X σ F s a w) {id : Nat} (hid : id < s.heap.length) {k : Option Blk} {f : AV → AV} {ob : AObj} (ho : w'.os = w.os) (ht : w'.tape = w.tape) (hp : w'.output = w.output) (hz : w.heap.size ≤ w'.heap.size)
  (hblk : ∀ g, g < w.heap.size → ¬ hasB σ id g → w'.heap[g]? = w.heap[g]?) (hF : ∀ b, F b → F' b) (hF' : ∀ b, F' b → F b ∨ hasB σ id b)
  (hk : ∀ q g, k = some q → q.has g → g < w'.heap.size ∧ ¬ F' g ∧ (∀ i, i ≠ id → ¬ hasB σ i g) ∧ (X.M g ∨ X.w0.heap.size ≤ g))
  (hfo : ∀ i sz off len y, RepV σ F w (.own i sz off len) y → RepV (upd σ id k) F' w' (f (.own i sz off len)) y) (hfp : ∀ i q sz j y, RepV σ F w (.ptr i q sz j) y → RepV (upd σ id k) F' w' (f (.ptr i q sz j)) y)
  (hfn : ∀ i q y, RepV σ F w (.nm i q) y → RepV (upd σ id k) F' w' (f (.nm i q)) y)
  (hst : id < X.m → k = σ id ∨ k = none) (hob : RepO (upd σ id k) F' w' id ob) : RepAt X (upd σ id k) F' ⟨Zo f s.env, (s.heap.map (AObj.sub f)).set id ob⟩ a w' := by
 have hFw : ∀ b, F b → w'.heap[b]? = w.heap[b]? := fun b hb => hblk b (hr.heap.flt b hb) (fun h => (hr.heap.lt _ _ h).2 hb)
 have hRF : ∀ x y, RepF F w x y → RepF F' w' x y := fun x y h => h.mono hF hFw
 have hRV : ∀ x y, RepV σ F w x y → RepV (upd σ id k) F' w' (x.sub f) y := fun x y h => h.sub hRF hfo hfp hfn
 have hne : ∀ i g, i ≠ id → hasB σ i g → ¬ hasB σ id g := fun i g hi h h' => hi (hr.heap.inj _ _ _ h h')
 have hcase : ∀ i g, hasB (upd σ id k) i g → (i = id ∧ g < w'.heap.size ∧ ¬ F' g ∧ (∀ i, i ≠ id → ¬ hasB σ i g) ∧ (X.M g ∨ X.w0.heap.size ≤ g)) ∨ (i ≠ id ∧ hasB σ i g) := fun i g h => by
  by_cases e : i = id
  ·subst e
   obtain ⟨q, h1, h2⟩ := Z43.1 h
   exact .inl ⟨rfl, hk q g h1 h2⟩
  ·exact .inr ⟨e, (Z2b e).1 h⟩
 refine ⟨hr.defers.keep fun D hD hn => ⟨hblk D (Z1n hD) (fun h => hr.heap.nodef h hD), fun h => (hF' D h).elim hn (fun h => hr.heap.nodef h hD)⟩, hr.size, fun i => by rw [Zn]; exact hRV _ _ (hr.env i), ⟨fun i q hq => ?_, fun i hi => ?_, fun i i' g h1 h2 => ?_, fun i g h => ?_, fun b hb => ?_, hr.heap.lay.mono hF hFw⟩, ?_, fun i g h => ?_, fun b hb => ?_, fun i hi => ?_, by have := hr.hm; simp; omega⟩
 ·by_cases hi : i = id
  ·subst hi
   rw [List.getElem?_set_self (by simpa using hid)] at hq
   injection hq with hq
   subst hq
   exact hob
  ·rw [List.getElem?_set_ne (by omega), List.getElem?_map, Option.map_eq_some_iff] at hq
   obtain ⟨q', hq', rfl⟩ := hq
   refine (hr.heap.obj i q' hq').move (fun k' h => by rw [Z9 _ _ hi]; exact h) (fun h => by rw [Z9 _ _ hi]; exact h) hRF (fun b hb => ⟨hF b hb, hFw b hb⟩) (fun g h => hblk g (hr.heap.lt _ _ h).1 (hne i g hi h)) hRV
 ·simp at hi
  rw [Z9 _ _ (by omega)]
  exact hr.heap.out i hi
 ·rcases hcase _ _ h1 with ⟨e1, g1, g2, g3⟩ | ⟨e1, h3⟩ <;> rcases hcase _ _ h2 with ⟨e2, g4, g5, g6⟩ | ⟨e2, h4⟩
  ·rw [e1, e2]
  ·exact absurd h4 (g3.1 _ e2)
  ·exact absurd h3 (g6.1 _ e1)
  ·exact hr.heap.inj _ _ _ h3 h4
 ·rcases hcase _ _ h with ⟨e1, g1, g2, g3⟩ | ⟨e1, h3⟩
  ·exact ⟨g1, g2⟩
  ·have h1 := hr.heap.lt _ _ h3
   refine ⟨Nat.lt_of_lt_of_le h1.1 hz, fun h2 => ?_⟩
   rcases hF' g h2 with h4 | h4
   ·exact h1.2 h4
   ·exact hne _ _ e1 h3 h4
 ·rcases hF' b hb with h3 | h3
  ·exact Nat.lt_of_lt_of_le (hr.heap.flt b h3) hz
  ·exact Nat.lt_of_lt_of_le (hr.heap.lt _ _ h3).1 hz
 ·refine ⟨ho.trans hr.keep.os, ht.trans hr.keep.tape, hp.trans hr.keep.output, Nat.le_trans hr.keep.size hz, fun g hg hm => ?_⟩
  refine (hblk g (Nat.lt_of_lt_of_le hg hr.keep.size) (fun h => ?_)).trans (hr.keep.block g hg hm)
  rcases hr.own _ _ h with h1 | h1
  ·exact hm h1
  ·omega
 ·rcases hcase _ _ h with ⟨e1, g1, g2, g3⟩ | ⟨e1, h3⟩
  ·exact g3.2
  ·exact hr.own _ _ h3
 ·rcases hF' b hb with h3 | h3
  ·exact hr.fnew b h3
  ·rcases hr.own _ _ h3 with h4 | h4
   ·exact .inr (.inl h4)
   ·exact .inr (.inr h4)
 ·by_cases e1 : i = id
  ·subst e1
   rw [Z0]
   rcases hst hi with h | h
   ·rw [h]; exact hr.stab i hi
   ·exact .inr h
  ·rw [Z9 _ _ e1]
   exact hr.stab i hi
theorem Z34 {id : Nat} {k : Option Blk} : ∀ i sz off len y, RepV σ F w (.own i sz off len) y → RepV (upd σ id k) F' w' (Z5 id (.own i sz off len)) y := by
 intro i sz off len y h
 simp only [Z5]
 by_cases e : i = id
 ·rw [if_pos e]; exact .f _ _ (.any _)
 ·rw [if_neg e]
  have hs := Z9 σ k e
  cases h with
  | f _ _ h => cases h
  | own0 _ _ h => exact .own0 _ _ (hs.trans h)
  | own _ _ _ _ g b c n h hn hc => exact .own _ _ _ _ g b c n (hs.trans h) hn hc
  | ownz _ _ _ g b c n a h hn hc => exact .ownz _ _ _ g b c n a (hs.trans h) hn hc
theorem Z33 {id : Nat} {k : Option Blk} : ∀ i q sz j y, RepV σ F w (.ptr i q sz j) y → RepV (upd σ id k) F' w' (Z5 id (.ptr i q sz j)) y := by
 intro i q sz j y h
 simp only [Z5]
 by_cases e : i = id
 ·rw [if_pos e]; exact .f _ _ (.any _)
 ·rw [if_neg e]
  have hs := Z9 σ k e
  cases h with
  | f _ _ h => cases h
  | ptr _ _ _ _ g b c n h => exact .ptr _ _ _ _ g b c n (hs.trans h)
def Z3n (id : Nat) : AV → AV
 | .own i sz off len => if i = id then .any else .own i sz off len
 | .ptr i k sz j => if i = id then .any else .ptr i k sz j
 | .nm i k => if i = id then (match k with | [0] => .nm i [0] | [2, n, j] => .nm i [2, n, j] | _ => .any) else .nm i k
 | x => x
theorem Ze4 {id : Nat} {k : Option Blk} : ∀ i sz off len y, RepV σ F w (.own i sz off len) y → RepV (upd σ id k) F' w' (Z3n id (.own i sz off len)) y := fun i sz off len y h => Z34 (id := id) i sz off len y h
theorem Ze3 {id : Nat} {k : Option Blk} : ∀ i q sz j y, RepV σ F w (.ptr i q sz j) y → RepV (upd σ id k) F' w' (Z3n id (.ptr i q sz j)) y := fun i q sz j y h => Z33 (id := id) i q sz j y h
theorem Zh6 {id : Nat} {gs gs' : Nat → Prop} {V V' : List Nat → Value} (hσ : σ id = some (.ext gs V)) (h0 : V' [0] = V [0]) (h2 : ∀ n j, V' [2, n, j] = V [2, n, j]) : ∀ i q y, RepV σ F w (.nm i q) y → RepV (upd σ id (some (.ext gs' V'))) F' w' (Z3n id (.nm i q)) y := by
 intro i q y h
 simp only [Z3n]
 by_cases e : i = id
 ·subst e
  rw [if_pos rfl]
  cases h with
  | f _ _ h => cases h
  | nm _ _ gs1 V1 h h1 =>
   rw [hσ] at h
   injection h with h
   injection h with e1 e2
   subst e2
   split
   ·rw [← h0]; exact .nm _ _ gs' V' (Z0 _ _ _) (by rw [h0]; exact h1)
   ·rw [← h2]; exact .nm _ _ gs' V' (Z0 _ _ _) (by rw [h2]; exact h1)
   ·exact .f _ _ (.any _)
 ·rw [if_neg e]
  have hs := Z9 σ (some (.ext gs' V')) e
  cases h with
  | f _ _ h => cases h
  | nm _ _ gs V h h1 => exact .nm _ _ gs V (hs.trans h) h1
def Z6v (isz : Nat) (V : List Nat → Value) (I : Nat → Value) : List Nat → Value
 | [1, j] => I j
 | [3, j, l, h] => Z1u isz (I j) l h
 | k => V k
def Zj1 (k : Blk) (sz i c : Nat) : Value := match k with
 | .at_ g b _ _ => .pointer (some ⟨g, (b + i) * sz + c, none⟩)
 | _ => undef
theorem Zdv (k : Blk) (sz : Nat) : PtrRep k sz (Zj1 k sz) := fun g b c n h i j => by subst h; rfl
theorem Z7m {id sz n : Nat} {q : Blk} (h : RepV σ F w (.own id sz 0 n) v) (hs : σ id = some q) : HdrRep q F w sz n v := by
 cases h with
 | f _ _ h => cases h
 | own0 _ _ h => rw [hs] at h; exact .own0 _ _ h
 | own _ _ _ _ g b c n h hn hc => rw [hs] at h; exact .own _ _ _ _ g b c n h hn hc
 | ownz _ _ _ g b c n a h hn hc => rw [hs] at h; exact .ownz _ _ _ g b c n a h hn hc
theorem Z4u {id e sz : Nat} {es : List (List AV)} (h : RepO σ F w id (.row e sz es)) : ∃ q, σ id = some q ∧ RowRep q F w e sz es := by
 rcases h with ⟨h1, h2⟩ | ⟨g, b, c, cur, h1, h2, h3, h4, h5, h6, h7⟩
 ·exact ⟨.nil, h1, .inl ⟨rfl, h2⟩⟩
 ·exact ⟨_, h1, .inr ⟨g, b, c, cur, rfl, h2, h3, h4, h5, h6, h7⟩⟩
section
variable {e ei sz isz : Nat} {part hole : Option Nat} {es : List (List AV)}
theorem RepAt.carve (hr : RepAt X σ F s a w) {id q d : Nat} (hd : envGet s.env d = .nm id [1, q]) (hq : s.heap[id]? = some (.lin e ei sz isz none none es)) (hql : q < es.length) (hm : X.m ≤ id) :
  ∃ σ', RepAt X σ' F ⟨(d, .own s.heap.length isz 0 (innOf (Z2 es q)).length) :: Zo (Z3n id) s.env, ((s.heap.map (AObj.sub (Z3n id))).set id (.lin e ei sz isz none (some q) es)) ++ [.row ei isz (innOf (Z2 es q))]⟩ a w := by
 have hid : id < s.heap.length := (List.getElem?_eq_some_iff.1 hq).1
 obtain ⟨R, B, V, h1, h4⟩ := hr.heap.obj id _ hq
 have h4 : LinRep F w e ei sz isz es.length none es R B V := h4
 obtain ⟨k1, k2, k3⟩ := h4.innr hql (by simp)
 have hv : a.tmps.getD d undef = V [1, q] := by
  have h := hr.env d
  rw [hd] at h
  obtain ⟨gs, V', h5, h6⟩ := RepV.nmv h
  rw [h1] at h5
  injection h5 with h5
  injection h5 with e1 e2
  rw [h6, ← e2]
 have hown : ∀ g, Z1g R B g → hasB σ id g := fun g hg => ⟨_, h1, hg⟩
 let B' : Nat → Blk := fun j => if j = q then .nil else B j
 let I : Nat → Value := fun j => if j = q then .slice none 0 0 else V [1, j]
 have hB' : ∀ j g, (B' j).has g → j ≠ q ∧ (B j).has g := fun j g hg => by
  simp only [B'] at hg
  by_cases hj : j = q
  ·rw [if_pos hj] at hg; exact hg.elim
  ·rw [if_neg hj] at hg; exact ⟨hj, hg⟩
 have hT : LinRep F w e ei sz isz es.length (some q) es R B' (Z6v isz V I) := by
  refine ⟨?_, h4.rhdr, h4.rptr, fun k l h => rfl, fun k hk => (by cases hk; exact ⟨hql, Nat.le_of_lt hql⟩), Nat.le_refl _, h4.hsz, fun k hk => ?_, fun k g hg hb => h4.apart k g hg (hB' k g hb).2, fun k k' g h h' => h4.inj k k' g (hB' k g h).2 (hB' k' g h').2⟩
  ·rcases h4.root with h5 | ⟨g, b, cap, cur, h5, h6, h7, h8, h9, h10, h11⟩
   ·exact .inl h5
   ·refine .inr ⟨g, b, cap, cur, h5, h6, h7, h8, h9, h10, fun i cs j x hi hj => ?_⟩
    obtain ⟨u, h12, h13, h14⟩ := h11 i cs j x hi hj
    refine ⟨u, h12, h13, ?_⟩
    by_cases hiq : i = q
    ·subst hiq
     rcases h14 with ⟨_, h15⟩ | ⟨h15, _⟩ | ⟨h15, h16⟩
     ·cases h15
     ·exact .inl ⟨h15, rfl⟩
     ·by_cases hj1 : j + 1 = sz
      ·exact .inl ⟨hj1, rfl⟩
      ·exact .inr (.inr ⟨fun h => absurd h hj1, h16⟩)
    ·rcases h14 with ⟨_, h15⟩ | ⟨h15, h16, _, h17, row, h18, h19, h20⟩ | ⟨h15, h16⟩
     ·cases h15
     ·refine .inr (.inl ⟨h15, h16, (fun h => hiq (by injection h with h; exact h.symm)), ?_, row, h18, ?_, ?_⟩)
      ·show u = if i = q then _ else V [1, i]
       rw [if_neg hiq]; exact h17
      ·simp only [B', if_neg hiq]; exact h19
      ·simp only [B', if_neg hiq]; exact h20
     ·exact .inr (.inr ⟨fun h => ⟨(h15 h).1, fun h => hiq (by injection h with h; exact h.symm)⟩, h16⟩)
  ·simp only [B']
   rcases hk with hk | hk
   ·have hne : k ≠ q := by omega
    rw [if_neg hne]
    refine ⟨(h4.out k (.inl hk)).1, ?_⟩
    show (if k = q then _ else V [1, k]) = _
    rw [if_neg hne]
    exact (h4.out k (.inl hk)).2
   ·injection hk with hk
    subst hk
    rw [if_pos rfl]
    refine ⟨rfl, ?_⟩
    show (if q = q then _ else V [1, q]) = _
    rw [if_pos rfl]
 have hr2 := hr.change2 (w' := w) (F' := F) (id := id) (k := some (.ext (Z1g R B') (Z6v isz V I))) (f := Z3n id) (ob := .lin e ei sz isz none (some q) es) hid rfl rfl rfl (Nat.le_refl _) (fun _ _ _ => rfl) (fun _ h => h) (fun _ h => .inl h) (fun q' g hq' hg => ?_) Ze4 Ze3 (Zh6 h1 rfl (fun n j => rfl)) (fun h => absurd h (by omega)) ⟨R, B', _, Z0 _ _ _, hT⟩
 ·have hnew := hr2.new2 (k := B q) (ob := .row ei isz (innOf (Z2 es q))) ?_ (fun g hg => ?_)
  ·simp only [List.length_set, List.length_map] at hnew
   refine ⟨_, ⟨hnew.defers, hnew.size, fun i => ?_, hnew.heap, hnew.keep, hnew.own, hnew.fnew, hnew.stab, hnew.hm⟩⟩
   simp only [envGet]
   by_cases hi : i = d
   ·rw [if_pos hi]
    subst hi
    rw [hv]
    have k4 := k3
    unfold HdrRep at k4
    rcases RepV.ownv k4 with ⟨e1, _, e2, e3⟩ | ⟨g, b, c, n, e1, e2, e3, e4 | ⟨e4, e5, e6, A, e7⟩⟩
    ·injection e1 with e1
     rw [e3, e2]
     exact .own0 _ _ (by rw [Z0, e1])
    ·injection e1 with e1
     rw [e4]
     exact .own _ _ _ _ g b c n (by rw [Z0, e1]) e2 e3
    ·injection e1 with e1
     rw [e7, e4]
     exact .ownz _ _ _ g b c n A (by rw [Z0, e1]) e5 e6
   ·rw [if_neg hi]; exact hnew.env i
  ·rcases k2 with ⟨e1, e2⟩ | ⟨g, b, c, cur, e1, e2, e3, e4, e5, e6, e7⟩
   ·exact .inl ⟨by rw [Z0, e1], e2⟩
   ·exact .inr ⟨g, b, c, cur, by rw [Z0, e1], e2, e3, e4, e5, e6, e7⟩
  ·have h5 := hr.heap.lt _ _ (hown g (.inr ⟨q, hg⟩))
   refine ⟨h5.1, h5.2, hr.own _ _ (hown g (.inr ⟨q, hg⟩)), fun i hi => ?_⟩
   by_cases hie : i = id
   ·subst hie
    obtain ⟨q', h6, h7⟩ := Z43.1 hi
    injection h6 with h6
    subst h6
    rcases h7 with h7 | ⟨j, h7⟩
    ·exact h4.apart q g h7 hg
    ·exact (hB' j g h7).1 (h4.inj _ _ _ (hB' j g h7).2 hg)
   ·exact hie (hr.heap.inj _ _ _ ((Z2b hie).1 hi) (hown g (.inr ⟨q, hg⟩)))
 ·injection hq' with hq'
  subst hq'
  have hg' : Z1g R B g := by
   rcases hg with hg | ⟨j, hg⟩
   ·exact .inl hg
   ·exact .inr ⟨j, (hB' j g hg).2⟩
  have h5 := hr.heap.lt _ _ (hown g hg')
  exact ⟨h5.1, h5.2, fun i hi hb => hi (hr.heap.inj _ _ _ hb (hown g hg')), hr.own _ _ (hown g hg')⟩
end
theorem Zd3 (hT : Zh P T) {t e : Nat} {y : Operand} (ho : o.op = .convert t t y) {m p : Nat} {z : Value} (ht : T t = some ⟨.slice e, m, p, z⟩) {m' p' : Nat} {z' : Value} (he : T e = some ⟨.int .u8, m', p', z'⟩)
  {id e0 : Nat} {es : List (List AV)} (hy : s.ev y = .own id 1 0 es.length) (hq : s.heap[id]? = some (.row e0 1 es)) (hpos : 0 < es.length) (hd : dOK X.n o.dst)
  (hK : K (St.put ⟨Zo (Z5 id) s.env, (s.heap.map (AObj.sub (Z5 id))).set id .dead⟩ o.dst (.ro 1 es))) : opWP P X o K s := by
 refine opWP.mem (fun σ F a w hr => ?_) hd
 have hid : id < s.heap.length := (List.getElem?_eq_some_iff.1 hq).1
 obtain ⟨q, h1, h2⟩ := Z4u (hr.heap.obj id _ hq)
 have h3 := Z7m (hy ▸ hr.ev y) h1
 obtain ⟨g, b, c, rfl⟩ := h2.pos hpos
 have hv := h3.at hpos
 obtain ⟨_, h4, h5, cur, h6, h7, h8, h9⟩ := h2.at
 have hu : P.underlying t = some (.slice e) := (hT _ _ ht).kind
 have hue : P.underlying e = some (.int .u8) := (hT _ _ he).kind
 have hsh : w.shape? g = some (e0, cur.size) := by simp [World.shape?, h6]
 have hlt := hr.heap.lt _ _ (.at h1)
 let w' : World := w.freeze ⟨g, cur.size, none⟩ 1
 have hg' : w'.heap[g]? = some (.cells cur e0 (cur.size, cur.size + 1)) := by
  simp only [w', World.freeze]
  rw [if_neg (by decide)]
  simp only [Array.getElem?_modify, if_true, h6, Option.map_some]
  rfl
 have hoth : ∀ g', g' ≠ g → w'.heap[g']? = w.heap[g']? := fun g' hn => by
  simp only [w', World.freeze]
  rw [if_neg (by decide)]
  simp only [Array.getElem?_modify]
  rw [if_neg (fun e => hn e.symm)]
 have hsize : w.heap.size ≤ w'.heap.size := by
  simp only [w', World.freeze]
  rw [if_neg (by decide)]
  simp
 have hrun : (execOp a.eval o).run P w = .ok (.value (a.eval y)) w' := by
  rw [hv]
  simp [execOp, ho, hv, convert, run_underlying hu, run_underlying hue, markStringish, hsh, w']
 let F' : Nat → Prop := fun b => F b ∨ hasB σ id b
 have hFb : ∀ b, F b → w'.heap[b]? = w.heap[b]? := fun b hb => hoth b (fun e => hlt.2 (e ▸ hb))
 have hro : RepF F' w' (.ro 1 es) (a.eval y) := by
  rw [hv]
  refine .ro 1 es.length c es ⟨g, b * 1, none⟩ (fun i j => (cur[(b + i) * 1 + j]?).getD undef) rfl h4 (.inr (.at h1)) h8 (fun i cs j x hi hj => ?_) (fun i cs j x hi hj => ?_)
  ·obtain ⟨u, k1, k2, k3⟩ := h9 i cs j x hi hj
   simp only [k1, Option.getD_some]
   refine ⟨?_, k2⟩
   rw [Zl, ← Nat.add_assoc, ← Nat.add_mul]
   simp [World.cell?, hg', k1]
   simpa using k1
  ·obtain ⟨u, k1, k2, k3⟩ := h9 i cs j x hi hj
   simp only [k1, Option.getD_some]
   exact k3.mono (fun _ h => .inl h) hFb
 exact ⟨a.eval y, w', upd σ id none, F', _, .ro 1 es, hrun, hr.change (ob := .dead) hid rfl rfl rfl hsize (fun g' _ hn => hoth g' (fun e => hn (e ▸ .at h1))) (fun _ h => .inl h) (fun _ h => h) (fun q g h => by cases h) Z34 Z33 Z1y (fun _ => .inr rfl) (Z0 _ _ _), .f _ _ hro, hK⟩
end
end Go.Proofs.YtnehieeplbgaiacDoor.Eng
set_option linter.unusedVariables false
set_option linter.unusedSimpArgs false
namespace Go.Proofs.YtnehieeplbgaiacDoor.Eng
open Go Go.RowKit
def Z2u (v : Value) (g : Nat) : Array Value := match decide (g = 1000000) with | true => #[v] | false => #[v, .func (.func g) #[] #[]]
theorem Zb1 (v : Value) : Z2u v 1000000 = #[v] := rfl
theorem Zb0 (v : Value) {g : Nat} (h : g ≠ 1000000) : Z2u v g = #[v, .func (.func g) #[] #[]] := by unfold Z2u; rw [decide_eq_false h]
structure SortPair (P : Program) (f g k : Nat) (xs ys : List (List Value)) : Prop where
 len : ys.length = xs.length
 size : ∀ c ∈ ys, c.length = k
 one : ∀ c ∈ ys, ∀ v ∈ c, v.oneCell' = true
 atNone : xs = [] → ∀ (p : Option Addr) (cap : Nat) (w : World), Calls P f (Z2u (.slice p 0 cap) g) w fun e w' => e = .returned (.tuple #[]) ∧ w' = w
 atSome : xs ≠ [] → ∀ (blk off cap : Nat) (w : World), Sort.Holds id w blk off xs.flatten.toArray → blk < w.heap.size → Calls P f (Z2u (.slice (some ⟨blk, off, none⟩) xs.length cap) g) w fun e w' => e = .returned (.tuple #[]) ∧ ∃ n os, w' = Sort.grow (Sort.putRow id (Sort.ahead w n) blk off ys.flatten.toArray) os
theorem Z2e {α : Type} {k : Nat} : ∀ {xs : List (List α)}, (∀ c ∈ xs, c.length = k) → xs.flatten.length = xs.length * k
 | [], _ => by simp
 | c :: xs, h => by
  have h1 := h c (List.mem_cons_self ..)
  have h2 := Z2e (xs := xs) (fun c hc => h c (List.mem_cons_of_mem _ hc))
  simp only [List.flatten_cons, List.length_append, List.length_cons, h1, h2, Nat.succ_mul]; omega
theorem Z2f {α : Type} {k : Nat} : ∀ {xs : List (List α)} {i j : Nat} {c : List α}, (∀ c ∈ xs, c.length = k) → xs[i]? = some c → j < k → xs.flatten[i * k + j]? = c[j]?
 | [], i, j, c, _, hi, _ => by simp at hi
 | d :: xs, 0, j, c, h, hi, hj => by
  simp at hi
  subst hi
  rw [Nat.zero_mul, Nat.zero_add, List.flatten_cons, List.getElem?_append_left (by rw [h d (List.mem_cons_self ..)]; exact hj)]
 | d :: xs, i + 1, j, c, h, hi, hj => by
  have hd := h d (List.mem_cons_self ..)
  rw [List.flatten_cons, List.getElem?_append_right (by rw [hd, Nat.succ_mul]; omega), hd]
  have e : (i + 1) * k + j - k = i * k + j := by rw [Nat.succ_mul]; omega
  rw [e]
  exact Z2f (fun c hc => h c (List.mem_cons_of_mem _ hc)) (by simpa using hi) hj
def rowV (xs : List (List Value)) : List (List AV) := xs.map fun c => c.map .v
section
variable {P : Program} {T : Tab} {X : Ctx} {σ σ' : Nat → Option Blk} {F F' : Nat → Prop} {s s' : St} {a : Act} {w w' : World} {o : Oper} {c : Prop} {x : AV} {v : Value} {K : St → Prop}
theorem Z6r {xs : List (List Value)} {i : Nat} {cs : List AV} (h : (rowV xs)[i]? = some cs) : ∃ c, xs[i]? = some c ∧ cs = c.map .v := by
 unfold rowV at h
 rw [List.getElem?_map, Option.map_eq_some_iff] at h
 obtain ⟨c, h1, rfl⟩ := h
 exact ⟨c, h1, rfl⟩
theorem RepAt.turnObj (hr : RepAt X σ F s a w) {i : Nat} (hid : i < s.heap.length) {g b c n : Nat} (hs : σ i = some (.at_ g b c n)) {ob : AObj} (h1 : w'.os = w.os) (h2 : w'.tape = w.tape) (h3 : w'.output = w.output) (h4 : w.heap.size ≤ w'.heap.size) (h5 : ∀ g', g' < w.heap.size → g' ≠ g → w'.heap[g']? = w.heap[g']?) (hob : RepO σ F w' i ob) : RepAt X σ F ⟨s.env, s.heap.set i ob⟩ a w' := by
 have hgF : ¬ F g := (hr.heap.lt _ _ (.at hs)).2
 have hF : ∀ b, F b → w'.heap[b]? = w.heap[b]? := fun b hb => h5 b (hr.heap.flt b hb) (fun e => hgF (e ▸ hb))
 have hup : upd σ i (σ i) = σ := by
  funext q
  unfold upd
  split
  ·rename_i e; rw [e]
  ·rfl
 have h := hr.change (w' := w') (F' := F) (f := _root_.id) (k := σ i) (ob := ob) hid h1 h2 h3 h4 (fun g1 hg1 hne => h5 g1 hg1 (fun e => hne (.at (e ▸ hs)))) (fun _ h => h) (fun _ h => .inl h)
  (fun q1 g1 h hg => ⟨Nat.lt_of_lt_of_le (hr.heap.lt _ _ ⟨q1, h, hg⟩).1 h4, (hr.heap.lt _ _ ⟨q1, h, hg⟩).2, .inl ⟨q1, h, hg⟩⟩)
  (fun q sz off len y h => by rw [hup]; exact h.mono (fun _ h => h) hF) (fun q k sz j y h => by rw [hup]; exact h.mono (fun _ h => h) hF) (fun q k y h => by rw [hup]; exact h.mono (fun _ h => h) hF) (fun _ => .inl rfl) (by rw [hup]; exact hob)
 rw [hup, Z7q, Z8r] at h
 exact h
theorem op_sort {fop : Operand} {y : Operand} {zs : List Operand} {ar : Array Operand} {ts : Array Nat} (ho : o.op = .call { callee := .value fop, args := ar, argTypes := ts }) (har : ar.toList = y :: zs) {f g k : Nat} (hf : s.ev fop = .fn f []) (hE : Enters P f) {xs ys : List (List Value)} (hp : SortPair P f g k xs ys)
  (hk : ∀ c ∈ xs, c.length = k) {id e0 : Nat} (hy : s.ev y = .own id k 0 xs.length) (hz : (g = 1000000 ∧ zs = []) ∨ (g ≠ 1000000 ∧ ∃ z, zs = [z] ∧ s.ev z = .fn g [])) (hq : s.heap[id]? = some (.row e0 k (rowV xs))) (hd : dOK X.n o.dst) (hK : K (St.put ⟨s.env, s.heap.set id (.row e0 k (rowV ys))⟩ o.dst .any)) : opWP P X o K s := by
 rintro Qc next a w hn ⟨σ, F, hr⟩
 have hid : id < s.heap.length := (List.getElem?_eq_some_iff.1 hq).1
 obtain ⟨us, hfv, hul, _⟩ := RepV.fnv (hf ▸ hr.ev fop)
 obtain rfl : us = [] := List.eq_nil_of_length_eq_zero hul.symm
 have hva : ar.map a.eval ++ #[] = Z2u (a.eval y) g := by
  rcases hz with ⟨rfl, rfl⟩ | ⟨hg, z, rfl, hz⟩
  ·apply Array.ext'
   simp [har, Zb1]
  ·obtain ⟨vs, hzv, hvl, _⟩ := RepV.fnv (hz ▸ hr.ev z)
   obtain rfl : vs = [] := List.eq_nil_of_length_eq_zero hvl.symm
   have hzv' : a.eval z = .func (.func g) #[] #[] := hzv
   rw [Zb0 _ hg, ← hzv']
   apply Array.ext'
   simp [har]
 have hrun : (execOp a.eval o).run P w = .ok (.enter f (Z2u (a.eval y) g)) w := by
  simp [execOp, ho, resolve, hfv, Deferred.ofValue, invoke, hE (Z2u (a.eval y) g) w]
  simpa using hva ▸ hE (Z2u (a.eval y) g) w
 obtain ⟨q, h1, h2⟩ := Z4u (hr.heap.obj id _ hq)
 have h3 := Z7m (hy ▸ hr.ev y) h1
 unfold Oper.wp
 rw [hrun]
 show Calls P f (Z2u (a.eval y) g) w _
 have hrl : (rowV xs).length = xs.length := by simp [rowV]
 by_cases h0 : xs = []
 ·obtain ⟨A, cap, hv⟩ := h3.slice
  rw [hv]
  have hys : ys = [] := List.eq_nil_of_length_eq_zero (by rw [hp.len, h0]; rfl)
  rw [h0]
  refine (hp.atNone h0 A cap w).mono ?_
  rintro e w' ⟨rfl, rfl⟩
  have hsame : s.heap.set id (.row e0 k (rowV ys)) = s.heap := by
   rw [hys, ← h0]
   apply List.ext_getElem?
   intro j
   by_cases hj : id = j
   ·subst hj; rw [List.getElem?_set_self hid, hq]
   ·rw [List.getElem?_set_ne hj]
  rw [hsame] at hK
  exact hn _ _ _ hK ⟨σ, F, hr.put hd (.f _ _ (.any _))⟩
 ·have hpos : 0 < xs.length := List.length_pos_iff.2 h0
  obtain ⟨gb, b, c, rfl⟩ := h2.pos (by rw [hrl]; exact hpos)
  rw [hrl] at h1 h2 h3
  have hv := h3.at hpos
  rw [hv]
  obtain ⟨_, h4, h5, cur, h6, h7, h8, h9⟩ := h2.at
  rw [hrl] at h4
  have hlt := hr.heap.lt _ _ (.at h1)
  have hfl := Z2e hk
  have hkpos : ∀ t, t < xs.length * k → 0 < k := fun t ht => by
   rcases Nat.eq_zero_or_pos k with h | h
   ·rw [h, Nat.mul_zero] at ht; omega
   ·exact h
  have hcell : ∀ t, t < xs.length * k → ∃ u, cur[b * k + t]? = some u ∧ xs.flatten[t]? = some u := fun t ht => by
   obtain ⟨i, j, hi, hj, rfl⟩ := Zq ht
   have hi2 := List.getElem?_eq_getElem hi
   have hcl := hk _ (List.getElem_mem hi)
   have hj2 : j < (xs[i]).length := by rw [hcl]; exact hj
   obtain ⟨u, k1, k2, k3⟩ := h9 i (xs[i].map .v) j (.v xs[i][j]) (by unfold rowV; rw [List.getElem?_map, hi2]; rfl) (by rw [List.getElem?_map, List.getElem?_eq_getElem hj2]; rfl)
   have hu : u = xs[i][j] := by cases k3; rfl
   refine ⟨u, ?_, ?_⟩
   ·rw [← k1, Nat.add_mul]; congr 1; omega
   ·rw [Z2f hk hi2 hj, List.getElem?_eq_getElem hj2, hu]
  have hH : Sort.Holds _root_.id w gb (b * k) xs.flatten.toArray := fun t ht => by
   have ht' : t < xs.length * k := by simpa [hfl] using ht
   obtain ⟨u, k1, k2⟩ := hcell t ht'
   have k3 : xs.flatten.toArray[t]! = u := by
    rw [getElem!_pos _ t ht]
    have : xs.flatten.toArray[t]? = some u := by simpa using k2
    rw [Array.getElem?_eq_getElem ht] at this
    exact Option.some.inj this
   refine ⟨?_, ?_⟩
   ·rw [k3]
    simp only [World.cell?, h6]
    simpa using k1
   ·simp [World.frozen?, h6]
  refine (hp.atSome h0 gb (b * k) c w hH hlt.1).mono ?_
  rintro e w' ⟨rfl, n, os, rfl⟩
  have hyl : ys.flatten.length = xs.length * k := by rw [Z2e hp.size, hp.len]
  let Y := ys.flatten.toArray
  let cur' := Sort.putCells _root_.id (b * k) Y cur
  have hw1 : (Sort.putRow _root_.id (Sort.ahead w n) gb (b * k) Y).heap[gb]? = some (.cells cur' e0 (0, 0)) := by
   simp only [Sort.putRow, Sort.mapBlock, Array.getElem?_modify, if_true]
   rw [show (Sort.ahead w n).heap = w.heap from rfl, h6]
   rfl
  have hsz : (Sort.putRow _root_.id (Sort.ahead w n) gb (b * k) Y).heap.size = w.heap.size := by simp
  have hw : (Sort.grow (Sort.putRow _root_.id (Sort.ahead w n) gb (b * k) Y) os).heap[gb]? = some (.cells cur' e0 (0, 0)) := by
   rw [Sort.heap_grow_old _ _ (by rw [hsz]; exact hlt.1)]; exact hw1
  have hcs : cur'.size = cur.size := by simp [cur', Sort.putCells]
  have hget : ∀ t, t < xs.length * k → ∀ u, ys.flatten[t]? = some u → cur'[b * k + t]? = some u := fun t ht u hu => by
   obtain ⟨u0, k1, _⟩ := hcell t ht
   simp only [cur', Sort.putCells, Array.getElem?_mapIdx, k1, Option.map_some]
   rw [if_pos ⟨by omega, by simp only [Y, List.size_toArray, hyl]; omega⟩, show b * k + t - b * k = t by omega]
   have htl : t < Y.size := by simp only [Y, List.size_toArray, hyl]; exact ht
   have : Y[t]? = some u := by simpa [Y] using hu
   rw [getElem!_pos Y t htl]
   rw [Array.getElem?_eq_getElem htl] at this
   exact congrArg some (Option.some.inj this)
  refine hn _ _ _ hK ⟨σ, F, (hr.turnObj (w' := Sort.grow (Sort.putRow _root_.id (Sort.ahead w n) gb (b * k) Y) os) (ob := .row e0 k (rowV ys)) hid h1 rfl rfl rfl ?_ (fun g' hg' hne => ?_) ?_).put hd (.f _ _ (.any _))⟩
  ·show w.heap.size ≤ ((Sort.putRow _root_.id (Sort.ahead w n) gb (b * k) Y).heap ++ os).size
   rw [Array.size_append, hsz]; omega
  ·rw [Sort.heap_grow_old _ _ (by rw [hsz]; exact hg')]
   simp only [Sort.putRow, Sort.mapBlock, Array.getElem?_modify]
   rw [if_neg (fun e => hne e.symm)]
   rfl
  ·have hyr : (rowV ys).length = xs.length := by simp [rowV, hp.len]
   refine .inr ⟨gb, b, c, cur', by rw [hyr]; exact h1, by rw [hyr]; exact h4, h5, hw, by rw [hcs]; exact h7, fun cs hcs' => ?_, fun i cs j x hi hj => ?_⟩
   ·obtain ⟨i, hi⟩ := List.getElem?_of_mem hcs'
    obtain ⟨c', k1, rfl⟩ := Z6r hi
    rw [List.length_map]; exact hp.size c' (List.mem_of_getElem? k1)
   ·obtain ⟨c', k1, rfl⟩ := Z6r hi
    rw [List.getElem?_map, Option.map_eq_some_iff] at hj
    obtain ⟨u, k2, rfl⟩ := hj
    have hcl := hp.size c' (List.mem_of_getElem? k1)
    have hj' : j < k := by have := (List.getElem?_eq_some_iff.1 k2).1; omega
    have hi' : i < xs.length := by have := (List.getElem?_eq_some_iff.1 k1).1; rw [hp.len] at this; exact this
    have htl : i * k + j < xs.length * k := by
     have : (i + 1) * k ≤ xs.length * k := Nat.mul_le_mul_right _ hi'
     rw [Nat.succ_mul] at this; omega
    refine ⟨u, ?_, hp.one c' (List.mem_of_getElem? k1) u (List.mem_of_getElem? k2), .v _⟩
    rw [Nat.add_mul, Nat.add_assoc]
    exact hget _ htl u ((Z2f hp.size k1 hj').trans k2)
end
end Go.Proofs.YtnehieeplbgaiacDoor.Eng
set_option linter.unusedVariables false
set_option linter.unusedSimpArgs false
namespace Go.Proofs.YtnehieeplbgaiacDoor.Eng
open Go Go.RowKit
section
variable {P : Program} {T : Tab} {X : Ctx} {σ σ' : Nat → Option Blk} {F F' : Nat → Prop} {s s' : St} {a : Act} {w w' : World} {o : Oper} {c : Prop} {x : AV} {v : Value} {K : St → Prop}
def Z16 (cs : List AV) (y : AV) : List AV := cs.dropLast ++ [y]
theorem Z4t {cs : List AV} {y : AV} {sz : Nat} (h : cs.length = sz) (h0 : 0 < sz) : (Z16 cs y).length = sz := by simp [Z16]; omega
theorem Z77 {cs : List AV} {y : AV} {sz : Nat} (h : cs.length = sz) (h0 : 0 < sz) {j : Nat} {x : AV} (hj : (Z16 cs y)[j]? = some x) : (j + 1 = sz ∧ x = y) ∨ (j + 1 < sz ∧ cs[j]? = some x) := by
 have hl : cs.dropLast.length = sz - 1 := by simp [h]
 rcases Nat.lt_or_ge j (sz - 1) with h1 | h1
 ·unfold Z16 at hj
  rw [List.getElem?_append_left (by omega), List.getElem?_dropLast] at hj
  split at hj
  ·exact .inr ⟨by omega, hj⟩
  ·cases hj
 ·have h2 := (List.getElem?_eq_some_iff.1 hj).1
  rw [Z4t h h0] at h2
  have e : j = cs.dropLast.length := by omega
  subst e
  unfold Z16 at hj
  rw [List.getElem?_append_right (Nat.le_refl _), Nat.sub_self] at hj
  cases hj
  exact .inl ⟨by omega, rfl⟩
theorem Zbe {t : Nat} {y z : Operand} (ho : o.op = .store t y z) (hT : Zh P T) {i : TI} (hi : T t = some i) (hs1 : i.size = 1) {id id2 n j : Nat} (hy : s.ev y = .nm id [2, n, j]) {e ei sz isz : Nat} {part part' hole : Option Nat} {es row : List (List AV)}
  (hz : s.ev z = .own id2 isz 0 row.length) (hq : s.heap[id]? = some (.lin e ei sz isz part hole es)) (hq2 : s.heap[id2]? = some (.row ei isz row)) (hj : j + 1 = sz) (hcase : (part = none ∧ hole = some n ∧ part' = none) ∨ (part = some n ∧ hole = none ∧ n < es.length ∧ part' = some (n + 1)))
  (hm : X.m ≤ id) (hd : dOK X.n o.dst) (hK : K (St.put ⟨Zo (Z3n id) (Zo (Z5 id2) s.env), (((s.heap.map (AObj.sub (Z5 id2))).set id2 .dead).map (AObj.sub (Z3n id))).set id (.lin e ei sz isz part' none (es.set n (Z16 (Z2 es n) (.ro isz row))))⟩ o.dst .any)) : opWP P X o K s := by
 refine opWP.unit (fun σ F a w hr => ?_) hd
 have hid : id < s.heap.length := (List.getElem?_eq_some_iff.1 hq).1
 have hid2 : id2 < s.heap.length := (List.getElem?_eq_some_iff.1 hq2).1
 have hne : id ≠ id2 := fun e => by subst e; rw [hq] at hq2; cases hq2
 obtain ⟨R, B, V, h1, h2, h3, h4⟩ := Z4o hr hy hq
 have hnl : n < es.length := by
  rcases hcase with ⟨_, e1, _⟩ | ⟨_, _, e1, _⟩
  ·exact (h4.hol n e1).1
  ·exact e1
 obtain ⟨k, g1, g2⟩ := Z4u (hr.heap.obj id2 _ hq2)
 have g3 := Z7m (hz ▸ hr.ev z) g1
 obtain ⟨A, cp, g4⟩ := g3.slice
 have hc1 : (a.eval z).cells.toList = [a.eval z] := by rw [g4]; rfl
 have hv1 : (a.eval z).oneCell' = true := by rw [g4]; rfl
 obtain ⟨g, b, cap, cur, k1, k2, k3, k4, k5, k6, k7⟩ := h4.pos (by omega)
 have hp := h4.rptr g b cap _ k1 n j
 rw [hp] at h2
 have hown2 : ∀ q, k.has q → hasB σ id2 q := fun q hg => ⟨k, g1, hg⟩
 have hown : ∀ q, Z1g R B q → hasB σ id q := fun q hg => ⟨_, h1, hg⟩
 have hdis : ∀ q, k.has q → ¬ Z1g R B q := fun q hg hg' => hne (hr.heap.inj _ _ _ (hown q hg') (hown2 q hg))
 have hRg : R.has g := by rw [k1]; rfl
 have hlt := hr.heap.lt _ _ (hown g (.inl hRg))
 have hbb : (b + n) * sz + j + 1 ≤ cur.size := by
  rw [k5]
  have : (b + n + 1) * sz ≤ (b + cap) * sz := Nat.mul_le_mul_right _ (by omega)
  rw [Nat.succ_mul] at this
  omega
 have hrun := Z75 (w := w) (hT _ _ hi) ho h2 k4 (by rw [hc1, hs1]; rfl) (fun u hu => by rw [hc1] at hu; rw [List.mem_singleton.1 hu]; exact hv1) (by rw [hs1]; omega)
 rw [hc1] at hrun
 let cur' : Array Value := (cur.toList.take ((b + n) * sz + j) ++ [a.eval z] ++ cur.toList.drop ((b + n) * sz + j + [a.eval z].length)).toArray
 have hfit : (b + n) * sz + j + [a.eval z].length ≤ cur.size := by simpa using hbb
 have hoth : ∀ g', g' ≠ g → (w.setRow g cur').heap[g']? = w.heap[g']? := fun g' hn => setRow_other w g g' _ hn
 have hRF : ∀ x y, RepF F w x y → RepF F (w.setRow g cur') x y := fun x y h => h.mono (fun _ h => h) (fun b hb => hoth b (fun e => hlt.2 (e ▸ hb)))
 have hBg : ∀ q g', (B q).has g' → g' ≠ g := fun q g' hb e => h4.apart q g hRg (e ▸ hb)
 have hkg : ∀ g', k.has g' → g' ≠ g := fun g' hb e => hdis g' hb (.inl (by rw [e]; exact hRg))
 let B' : Nat → Blk := fun q => if q = n then k else B q
 let I : Nat → Value := fun q => if q = n then a.eval z else V [1, q]
 have hB' : ∀ q g', (B' q).has g' → (q = n ∧ k.has g') ∨ (q ≠ n ∧ (B q).has g') := fun q g' hg => by
  simp only [B'] at hg
  by_cases hq : q = n
  ·rw [if_pos hq] at hg; exact .inl ⟨hq, hg⟩
  ·rw [if_neg hq] at hg; exact .inr ⟨hq, hg⟩
 have hcc : ∀ q, q ≠ n → (q < part'.getD es.length ↔ q < part.getD es.length) := fun q hq => by
  rcases hcase with ⟨e1, _, e2⟩ | ⟨e1, _, _, e2⟩
  ·rw [e1, e2]
  ·rw [e1, e2]; simp only [Option.getD_some]; omega
 have hnc : n < part'.getD es.length := by
  rcases hcase with ⟨e1, _, e2⟩ | ⟨e1, _, _, e2⟩
  ·rw [e2]; exact hnl
  ·rw [e2]; simp
 have hho : ∀ q, q ≠ n → hole ≠ some q := fun q hq e => by
  rcases hcase with ⟨_, e1, _⟩ | ⟨_, e1, _⟩
  ·rw [e1] at e; injection e with e; exact hq e.symm
  ·rw [e1] at e; cases e
 have hlen' : (es.set n (Z16 (Z2 es n) (.ro isz row))).length = es.length := by simp
 have hrn := Z8t hnl
 have hrl : (Z2 es n).length = sz := k6 _ (List.mem_of_getElem? hrn)
 have hT' : LinRep F (w.setRow g cur') e ei sz isz (part'.getD (es.set n (Z16 (Z2 es n) (.ro isz row))).length) none (es.set n (Z16 (Z2 es n) (.ro isz row))) R B' (Z6v isz V I) := by
  rw [hlen']
  refine ⟨?_, by rw [hlen']; exact h4.rhdr.mono, h4.rptr, fun k l h => rfl, fun k hk => (by cases hk), ?_, h4.hsz, fun q hq' => ?_, fun q g' hg hb => ?_, fun q q' g' h h' => ?_⟩
  ·refine .inr ⟨g, b, cap, cur', by rw [hlen', k1], by rw [hlen']; exact k2, k3, setRow_heap w g cur _ e _ k4, by simp only [cur']; rw [Z5d _ _ _ hfit, k5], fun cs hcs => ?_, fun q cs p x hq' hp' => ?_⟩
   ·rcases List.mem_or_eq_of_mem_set hcs with h9 | h9
    ·exact k6 cs h9
    ·subst h9; exact Z4t hrl h4.hsz
   ·simp only [cur']
    rw [Z2l _ _ _ hfit]
    by_cases hqn : q = n
    ·subst hqn
     rw [List.getElem?_set_self hnl] at hq'
     injection hq' with hq'
     subst hq'
     rcases Z77 hrl h4.hsz hp' with ⟨e1, rfl⟩ | ⟨e1, e2⟩
     ·have : p = j := by omega
      subst this
      rw [if_pos (by simp)]
      refine ⟨a.eval z, by simp, hv1, .inr (.inl ⟨hj, hnc, by simp, ?_, row, rfl, ?_, ?_⟩)⟩
      ·show _ = if q = q then _ else _
       rw [if_pos rfl]
      ·simp only [B', if_true]; exact g2.mono hRF (fun g' hg' => hoth g' (hkg g' hg'))
      ·simp only [B', if_true]; exact g3.mono
     ·obtain ⟨u, h9, h10, h11⟩ := k7 q _ p x hrn e2
      rw [if_neg (by simp; omega)]
      refine ⟨u, h9, h10, .inr (.inr ⟨fun h => absurd h (by omega), ?_⟩)⟩
      rcases h11 with ⟨e3, _⟩ | ⟨e3, _⟩ | ⟨_, h11⟩
      ·omega
      ·omega
      ·exact hRF _ _ h11
    ·rw [List.getElem?_set_ne (by omega)] at hq'
     obtain ⟨u, h9, h10, h11⟩ := k7 q cs p x hq' hp'
     have hps : p < sz := by have := (List.getElem?_eq_some_iff.1 hp').1; rw [k6 cs (List.mem_of_getElem? hq')] at this; exact this
     rw [if_neg ?_]
     ·refine ⟨u, h9, h10, ?_⟩
      rcases h11 with ⟨_, h12⟩ | ⟨h12, h13, _, h14, r, h15, h16, h17⟩ | ⟨h12, h13⟩
      ·exact absurd h12 (hho q hqn)
      ·refine .inr (.inl ⟨h12, (hcc q hqn).2 h13, by simp, ?_, r, h15, ?_, ?_⟩)
       ·show u = if q = n then _ else V [1, q]
        rw [if_neg hqn]; exact h14
       ·simp only [B', if_neg hqn]; exact h16.mono hRF (fun g' hg' => hoth g' (hBg q g' hg'))
       ·simp only [B', if_neg hqn]; exact h17.mono
      ·refine .inr (.inr ⟨fun h => ⟨?_, by simp⟩, hRF _ _ h13⟩)
       have := (h12 h).1
       have := (hcc q hqn)
       omega
     ·rintro ⟨h12, h13⟩
      simp only [List.length_singleton] at h13
      rcases Nat.lt_or_gt_of_ne hqn with h14 | h14
      ·have : (b + q + 1) * sz ≤ (b + n) * sz := Nat.mul_le_mul_right _ (by omega)
       rw [Nat.succ_mul] at this
       omega
      ·have : (b + n + 1) * sz ≤ (b + q) * sz := Nat.mul_le_mul_right _ (by omega)
       rw [Nat.succ_mul] at this
       omega
  ·rw [hlen']
   rcases hcase with ⟨_, _, e2⟩ | ⟨_, _, h9, e2⟩
   ·rw [e2]; exact Nat.le_refl _
   ·rw [e2]; exact h9
  ·have hqn : q ≠ n := fun e => by
    rcases hq' with h | h
    ·omega
    ·cases h
   have hqc : part.getD es.length ≤ q := by
    rcases hq' with h | h
    ·have := hcc q hqn; omega
    ·cases h
   simp only [B', if_neg hqn]
   refine ⟨(h4.out q (.inl hqc)).1, ?_⟩
   show (if q = n then _ else V [1, q]) = _
   rw [if_neg hqn]
   exact (h4.out q (.inl hqc)).2
  ·rcases hB' q g' hb with ⟨_, hb⟩ | ⟨_, hb⟩
   ·exact hdis g' hb (.inl hg)
   ·exact h4.apart q g' hg hb
  ·rcases hB' q g' h with ⟨e1, hb⟩ | ⟨e1, hb⟩ <;> rcases hB' q' g' h' with ⟨e2, hb'⟩ | ⟨e2, hb'⟩
   ·rw [e1, e2]
   ·exact absurd (.inr ⟨q', hb'⟩) (hdis g' hb)
   ·exact absurd (.inr ⟨q, hb⟩) (hdis g' hb')
   ·exact h4.inj _ _ _ hb hb'
 have hr2 := hr.change (w' := w) (F' := F) (k := none) (f := Z5 id2) (ob := .dead) (id := id2) hid2 rfl rfl rfl (Nat.le_refl _) (fun _ _ _ => rfl) (fun _ h => h) (fun _ h => .inl h) (fun q g h => by cases h) Z34 Z33 Z1y (fun _ => .inr rfl) (Z0 _ _ _)
 have hB1 : ∀ i g, hasB (upd σ id2 none) i g → i ≠ id2 ∧ hasB σ i g := fun i g h => by
  by_cases e2 : i = id2
  ·subst e2
   obtain ⟨q, hq, _⟩ := Z43.1 h
   cases hq
  ·exact ⟨e2, (Z2b e2).1 h⟩
 have hgid : hasB (upd σ id2 none) id g := (Z2b hne).2 (hown g (.inl hRg))
 have hr3 := hr2.change2 (w' := w.setRow g cur') (F' := F) (id := id) (k := some (.ext (Z1g R B') (Z6v isz V I))) (f := Z3n id) (ob := .lin e ei sz isz part' none (es.set n (Z16 (Z2 es n) (.ro isz row)))) (by simpa using hid) rfl rfl rfl (by simp) (fun g' _ hn => hoth g' (fun e => hn (e ▸ hgid))) (fun _ h => h) (fun _ h => .inl h) (fun q' g' hq' hg => ?_) Ze4 Ze3 (Zh6 ((Z9 _ _ hne).trans h1) rfl (fun n j => rfl)) (fun h => absurd h (by omega)) ⟨R, B', _, Z0 _ _ _, hT'⟩
 ·exact ⟨w.setRow g cur', _, F, _, hrun, hr3, hK⟩
 ·injection hq' with hq'
  subst hq'
  have hall : hasB σ id g' ∨ hasB σ id2 g' := by
   rcases hg with hg | ⟨q, hg⟩
   ·exact .inl (hown g' (.inl hg))
   ·rcases hB' q g' hg with ⟨_, hb⟩ | ⟨_, hb⟩
    ·exact .inr (hown2 g' hb)
    ·exact .inl (hown g' (.inr ⟨q, hb⟩))
  rcases hall with h | h
  ·have := hr.heap.lt _ _ h
   exact ⟨by simpa using this.1, this.2, fun i hi hb => hi (hr.heap.inj _ _ _ (hB1 i g' hb).2 h), hr.own _ _ h⟩
  ·have := hr.heap.lt _ _ h
   exact ⟨by simpa using this.1, this.2, fun i hi hb => (hB1 i g' hb).1 (hr.heap.inj _ _ _ (hB1 i g' hb).2 h), hr.own _ _ h⟩
def Z7n (id sz isz : Nat) (es : List (List AV)) : AV → AV
 | .own i s off len => if i = id then .any else .own i s off len
 | .ptr i k s j => if i = id then .any else .ptr i k s j
 | .nm i k => if i = id then (match k with
  | [0] => AV.ro sz es
  | [1, q] => AV.ro isz (innOf (Z2 es q))
  | _ => .any) else .nm i k
 | x => x
theorem Rep.freezeLin {s : St} (hr : Rep X s a w) {id e ei sz isz : Nat} {es : List (List AV)} (hq : s.heap[id]? = some (.lin e ei sz isz none none es)) : Rep X ⟨Zo (Z7n id sz isz es) s.env, (s.heap.map (AObj.sub (Z7n id sz isz es))).set id .dead⟩ a w := by
 obtain ⟨σ, F, hr⟩ := hr
 have hid : id < s.heap.length := (List.getElem?_eq_some_iff.1 hq).1
 obtain ⟨R, B, V, h1, h4⟩ := hr.heap.obj id _ hq
 let F' : Nat → Prop := fun b => F b ∨ hasB σ id b
 have hown : ∀ g, Z1g R B g → F' g := fun g hg => .inr ⟨_, h1, hg⟩
 refine ⟨upd σ id none, F', hr.change hid rfl rfl rfl (Nat.le_refl _) (fun _ _ _ => rfl) (fun _ h => .inl h) (fun _ h => h) (fun q g h => by cases h) (fun i sz' off len y h => Z34 (id := id) i sz' off len y h) (fun i q sz' j y h => Z33 (id := id) i q sz' j y h) (fun i q y h => ?_) (fun _ => .inr rfl) (Z0 _ _ _)⟩
 simp only [Z7n]
 by_cases hi : i = id
 ·subst hi
  rw [if_pos rfl]
  cases h with
  | f _ _ h => cases h
  | nm _ _ gs V' h h5 =>
   rw [h1] at h
   injection h with h
   injection h with e1 e2
   subst e2
   split
   ·exact .f _ _ (h4.ro0 (fun _ h => .inl h) hown)
   ·exact .f _ _ (h4.ro1 (fun _ h => .inl h) hown _)
   ·exact .f _ _ (.any _)
 ·rw [if_neg hi]
  have hs := Z9 σ none hi
  cases h with
  | f _ _ h => cases h
  | nm _ _ gs V h h1 => exact .nm _ _ gs V (hs.trans h) h1
theorem RepAt.toLinV (hr : RepAt X σ F s a w) {id e ei sz isz : Nat} {es : List (List AV)} (hq : s.heap[id]? = some (.row e sz es)) (hsz : 0 < sz) {v : Value} (hv : RepV σ F w (.own id sz 0 es.length) v) (hm : X.m ≤ id) :
  ∃ gs V, RepAt X (upd σ id (some (.ext gs V))) F ⟨Zo (Z5 id) s.env, (s.heap.map (AObj.sub (Z5 id))).set id (.lin e ei sz isz (some 0) none es)⟩ a w ∧ V [0] = v ∧ v.oneCell' = true := by
 have hid : id < s.heap.length := (List.getElem?_eq_some_iff.1 hq).1
 obtain ⟨q, h1, h2⟩ := Z4u (hr.heap.obj id _ hq)
 have h3 := Z7m hv h1
 obtain ⟨A, cp, h4⟩ := h3.slice
 let V : List Nat → Value := fun l => match l with
  | [0] => v
  | [1, _] => .slice none 0 0
  | [2, k, j] => Zj1 q sz k j
  | [3, _, l, h] => Z1u isz (.slice none 0 0) l h
  | _ => undef
 have hT : LinRep F w e ei sz isz 0 none es q (fun _ => .nil) V := by
  refine ⟨?_, h3, fun g b cap n hR k j => by show Zj1 q sz k j = _; exact Zdv q sz g b cap n hR k j, fun k l h => rfl, fun k hk => (by cases hk), Nat.zero_le _, hsz, fun k _ => ⟨rfl, rfl⟩, fun k g _ h => h, fun k k' g h => h.elim⟩
  rcases h2 with h2 | ⟨g, b, c, cur, h5, h6, h7, h8, h9, h10, h11⟩
  ·exact .inl h2
  ·refine .inr ⟨g, b, c, cur, h5, h6, h7, h8, h9, h10, fun i cs j x hi hj => ?_⟩
   obtain ⟨u, h12, h13, h14⟩ := h11 i cs j x hi hj
   exact ⟨u, h12, h13, .inr (.inr ⟨fun _ => ⟨Nat.zero_le _, by simp⟩, h14⟩)⟩
 have hown : ∀ g, Z1g q (fun _ => .nil) g → hasB σ id g := fun g hg => by
  rcases hg with hg | ⟨_, hg⟩
  ·exact ⟨q, h1, hg⟩
  ·exact hg.elim
 refine ⟨Z1g q (fun _ => .nil), V, ?_, rfl, by rw [h4]; rfl⟩
 exact hr.change (w' := w) (F' := F) (k := some (.ext (Z1g q (fun _ => .nil)) V)) (f := Z5 id) (ob := .lin e ei sz isz (some 0) none es) hid rfl rfl rfl (Nat.le_refl _) (fun _ _ _ => rfl) (fun _ h => h) (fun _ h => .inl h)
  (fun q' g hq' hg => by
   cases hq'
   have := hr.heap.lt _ _ (hown g hg)
   exact ⟨this.1, this.2, .inl (hown g hg)⟩) Z34 Z33 Z1y (fun h => absurd h (by omega)) ⟨q, _, _, Z0 _ _ _, hT⟩
theorem RepAt.toLinB (hr : RepAt X σ F s a w) {id e ei sz isz b eb j : Nat} {es : List (List AV)} {cs : List AV} (hq : s.heap[id]? = some (.row e sz es)) (hsz : 0 < sz) (hb : s.heap[b]? = some (.box eb cs)) (hj : cs[j]? = some (.own id sz 0 es.length)) (hm : X.m ≤ id) :
  ∃ σ', RepAt X σ' F ⟨Zo (Z5 id) s.env, ((s.heap.map (AObj.sub (Z5 id))).set id (.lin e ei sz isz (some 0) none es)).set b (.box eb ((cs.map (AV.sub (Z5 id))).set j (.nm id [0])))⟩ a w := by
 have hne : b ≠ id := fun e => by subst e; rw [hq] at hb; cases hb
 have hbl : b < s.heap.length := (List.getElem?_eq_some_iff.1 hb).1
 have hjl : j < cs.length := (List.getElem?_eq_some_iff.1 hj).1
 obtain ⟨g, vs, k1, k2, k3, k4, k5⟩ := hr.heap.obj b _ hb
 obtain ⟨gs, V, h1, h2, h3⟩ := hr.toLinV (ei := ei) (isz := isz) hq hsz (k5 j _ vs[j] hj (List.getElem?_eq_getElem (by omega))) hm
 refine ⟨_, h1.defers, h1.size, h1.env, ⟨fun i o ho => ?_, fun i hi => h1.heap.out i (by simpa using hi), h1.heap.inj, h1.heap.lt, h1.heap.flt, h1.heap.lay⟩, h1.keep, h1.own, h1.fnew, h1.stab, by have := h1.hm; simpa using this⟩
 simp only at ho
 by_cases hi : i = b
 ·subst hi
  rw [List.getElem?_set_self (by simpa using hbl)] at ho
  cases ho
  have hob := h1.heap.obj i (.box eb (cs.map (AV.sub (Z5 id)))) (by
   simp only
   rw [List.getElem?_set_ne (by omega), List.getElem?_map, hb]; rfl)
  obtain ⟨g', vs', m1, m2, m3, m4, m5⟩ := hob
  rw [Z9 _ _ hne, k1] at m1
  cases m1
  rw [k2] at m2
  injection m2 with m2
  injection m2 with m2
  have e1 : vs = vs' := by simpa using m2
  subst e1
  refine ⟨g, vs, by rw [Z9 _ _ hne]; exact k1, k2, by simpa using k3, k4, fun j' x u hx hu => ?_⟩
  rw [List.getElem?_set] at hx
  split at hx
  ·rename_i e2
   subst e2
   split at hx
   ·cases hx
    have e3 : u = V [0] := by
     rw [h2]
     rw [List.getElem?_eq_getElem (by omega)] at hu
     exact (Option.some.inj hu).symm
    rw [e3]
    exact .nm _ _ gs V (Z0 _ _ _) (by rw [h2]; exact h3)
   ·cases hx
  ·exact m5 j' x u hx hu
 ·rw [List.getElem?_set_ne (by omega)] at ho
  exact h1.heap.obj i o ho
theorem Rep.fullLin {s : St} (hr : Rep X s a w) {id e ei sz isz : Nat} {es : List (List AV)} (hq : s.heap[id]? = some (.lin e ei sz isz (some es.length) none es)) : Rep X ⟨s.env, s.heap.set id (.lin e ei sz isz none none es)⟩ a w := by
 obtain ⟨σ, F, hr⟩ := hr
 have hid : id < s.heap.length := (List.getElem?_eq_some_iff.1 hq).1
 refine ⟨σ, F, hr.defers, hr.size, hr.env, ⟨fun i ob hi => ?_, fun i hi => hr.heap.out i (by simpa using hi), hr.heap.inj, hr.heap.lt, hr.heap.flt, hr.heap.lay⟩, hr.keep, hr.own, hr.fnew, hr.stab, by have := hr.hm; simpa using this⟩
 by_cases e1 : i = id
 ·subst e1
  simp only at hi
  rw [List.getElem?_set_self hid] at hi
  cases hi
  have h := hr.heap.obj i _ hq
  exact h
 ·simp only at hi
  rw [List.getElem?_set_ne (by omega)] at hi
  exact hr.heap.obj i ob hi
end
end Go.Proofs.YtnehieeplbgaiacDoor.Eng
set_option linter.unusedVariables false
set_option linter.unusedSimpArgs false
namespace Go.Proofs.YtnehieeplbgaiacDoor.Eng
open Go Go.RowKit
section
variable {P : Program} {T : Tab} {X : Ctx} {σ σ' : Nat → Option Blk} {F F' : Nat → Prop} {s s' : St} {a : Act} {w w' : World} {o : Oper} {c : Prop} {x : AV} {v : Value} {K : St → Prop}
theorem RepV.mpv {es : List (ByteArray × Value)} {y : Value} (h : RepV σ F w (.mp es) y) : RepF F w (.mp es) y := by
 cases h with
 | f _ _ h => exact h
theorem Zj5 {t kt et : Nat} {y : Operand} (ho : o.op = .range t y) (ht : P.underlying t = some (.map kt et)) {es : List (ByteArray × Value)} (hy : s.ev y = .mp es) (hd : dOK X.n o.dst)
  (hK : K (St.put { s with heap := s.heap ++ [.iter none es] } o.dst (.nm s.heap.length []))) : opWPG P X o K s := by
 refine opWPG.mem (fun σ F a w hr => ?_) hd
 have hv := RepV.mpv (hy ▸ hr.ev y)
 have fin : ∀ (om : Option Nat) (c : Nat), (execOp a.eval o).run P w = .ok (.value (.pointer (some ⟨w.heap.size, 0, none⟩))) (w.alloc (.mapIter om c #[] c)) → IterIs F (w.alloc (.mapIter om c #[] c)) om c #[] c none es →
   ∃ v w' σ' F' s' x, (execOp a.eval o).run P w = .ok (.value v) w' ∧ Grow w w' ∧ RepAt X σ' F' s' a w' ∧ RepV σ' F' w' x v ∧ K (s'.put o.dst x) := by
  intro om c hrun hit
  refine ⟨.pointer (some ⟨w.heap.size, 0, none⟩), _, _, F, _, _, hrun, Grow.alloc w _, (hr.ext (Ext.alloc w (.mapIter om c #[] c))).new (k := .ext (fun h => h = w.heap.size) fun _ => .pointer (some ⟨w.heap.size, 0, none⟩)) (ob := .iter none es) ?_ (fun g hg => ?_), ?_, hK⟩
  ·exact ⟨w.heap.size, om, c, #[], c, Z0 _ _ _, heap_alloc_new w _, hit⟩
  ·have e1 : g = w.heap.size := hg
   subst e1
   refine ⟨by simp, fun hF => ?_, hr.keep.size, fun id h => ?_⟩
   ·have := hr.heap.flt _ hF; omega
   ·have := (hr.heap.lt _ _ h).1; omega
  ·exact .nm s.heap.length [] _ _ (Z0 _ _ _) rfl
 generalize hyv : a.eval y = yv at hv
 cases hv with
 | mp0 =>
  refine fin none 0 ?_ (.inl ⟨rfl, rfl, rfl⟩)
  simp only [execOp, ho, hyv, Sem.run_bind, run_range_nilMap w t kt et ht, Result.andThen_ok]
  rfl
 | mp es g arr clock hF hg hm =>
  have hgl : g < w.heap.size := hr.heap.flt g hF
  refine fin (some g) clock ?_ ?_
  ·simp only [execOp, ho, hyv, Sem.run_bind, run_range_map w t kt et g arr clock ht hg, Result.andThen_ok]
   rfl
  ·obtain ⟨⟨es0, h1, h2⟩, h3, h4, h5⟩ := hm
   refine .inr ⟨g, arr, clock, rfl, hF, ((MapKept.heap_alloc w _).2 g hgl).trans hg, h4, h5, rfl, rfl, fun l h => (by cases h), es0, ?_, h2⟩
   rw [← h1]
   congr 1
   simp [leftOf]
end
end Go.Proofs.YtnehieeplbgaiacDoor.Eng
set_option linter.unusedVariables false
set_option linter.unusedSimpArgs false
namespace Go.Proofs.YtnehieeplbgaiacDoor.Eng
open Go Go.RowKit
section
variable {P : Program} {T : Tab} {X : Ctx} {σ σ' : Nat → Option Blk} {F F' : Nat → Prop} {s s' : St} {a a' : Act} {w w' : World} {o : Oper} {c : Prop} {x : AV} {v : Value} {K : St → Prop}
def aside (X : Ctx) (σ : Nat → Option Blk) (F : Nat → Prop) (w : World) (id : Nat) : Ctx := ⟨X.n, w, fun g => ∃ i, i ≠ id ∧ hasB σ i g, F, 0, fun _ => none, X.ro, X.rf⟩
theorem RepAt.know {d : Nat} (hr : RepAt X σ F s a w) (hv : RepV σ F w x (a.tmps.getD d undef)) : RepAt X σ F ⟨(d, x) :: s.env, s.heap⟩ a w :=
 ⟨hr.defers, hr.size, fun i => by
  simp only [envGet]
  split
  ·rename_i h; subst h; exact hv
  ·exact hr.env i, hr.heap, hr.keep, hr.own, hr.fnew, hr.stab, hr.hm⟩
end
end Go.Proofs.YtnehieeplbgaiacDoor.Eng
set_option linter.unusedVariables false
set_option linter.unusedSimpArgs false
namespace Go.Proofs.YtnehieeplbgaiacDoor.Eng
open Go Go.RowKit
structure CutPair (P : Program) (f k : Nat) (xs ys : List (List Value)) (m : Nat) : Prop where
 len : ys.length = xs.length
 le : m ≤ xs.length
 size : ∀ c ∈ ys, c.length = k
 one : ∀ c ∈ ys, ∀ v ∈ c, v.oneCell' = true
 atNone : xs = [] → ∀ (p : Option Addr) (cap : Nat) (w : World), Calls P f #[.slice p 0 cap] w fun e w' => e = .returned (.slice p 0 cap) ∧ w' = w
 atSome : xs ≠ [] → ∀ (blk off cap : Nat) (w : World), Sort.Holds id w blk off xs.flatten.toArray → blk < w.heap.size → xs.length ≤ cap → Calls P f #[.slice (some ⟨blk, off, none⟩) xs.length cap] w fun e w' => e = .returned (.slice (some ⟨blk, off, none⟩) m cap) ∧ ∃ n os, w' = Sort.grow (Sort.putRow id (Sort.ahead w n) blk off ys.flatten.toArray) os
section
variable {P : Program} {T : Tab} {X : Ctx} {σ σ' : Nat → Option Blk} {F F' : Nat → Prop} {s s' : St} {a : Act} {w w' : World} {o : Oper} {c : Prop} {x : AV} {v : Value} {K : St → Prop}
theorem op_cut {fop : Operand} {y : Operand} {ar : Array Operand} {ts : Array Nat} (ho : o.op = .call { callee := .value fop, args := ar, argTypes := ts }) (har : ar.toList = [y]) {f k m : Nat} (hf : s.ev fop = .fn f []) (hE : Enters P f) {xs ys : List (List Value)} (hp : CutPair P f k xs ys m)
  (hk : ∀ c ∈ xs, c.length = k) {id e0 : Nat} (hy : s.ev y = .own id k 0 xs.length) (hq : s.heap[id]? = some (.row e0 k (rowV xs))) (hd : dOK X.n o.dst) (hK : K (St.put ⟨s.env, s.heap.set id (.row e0 k (rowV ys))⟩ o.dst (.own id k 0 m))) : opWP P X o K s := by
 rintro Qc next a w hn ⟨σ, F, hr⟩
 have hid : id < s.heap.length := (List.getElem?_eq_some_iff.1 hq).1
 obtain ⟨us, hfv, hul, _⟩ := RepV.fnv (hf ▸ hr.ev fop)
 obtain rfl : us = [] := List.eq_nil_of_length_eq_zero hul.symm
 have hva : ar.map a.eval ++ #[] = #[a.eval y] := by
  apply Array.ext'
  simp [har]
 have hrun : (execOp a.eval o).run P w = .ok (.enter f (#[a.eval y])) w := by
  simp [execOp, ho, resolve, hfv, Deferred.ofValue, invoke, hE (#[a.eval y]) w]
  simpa using hva ▸ hE (#[a.eval y]) w
 obtain ⟨q, h1, h2⟩ := Z4u (hr.heap.obj id _ hq)
 have h3 := Z7m (hy ▸ hr.ev y) h1
 unfold Oper.wp
 rw [hrun]
 show Calls P f (#[a.eval y]) w _
 have hrl : (rowV xs).length = xs.length := by simp [rowV]
 by_cases h0 : xs = []
 ·obtain ⟨A, cap, hv⟩ := h3.slice
  rw [hv]
  have hys : ys = [] := List.eq_nil_of_length_eq_zero (by rw [hp.len, h0]; rfl)
  rw [h0]
  refine (hp.atNone h0 A cap w).mono ?_
  rintro e w' ⟨rfl, rfl⟩
  have hsame : s.heap.set id (.row e0 k (rowV ys)) = s.heap := by
   rw [hys, ← h0]
   apply List.ext_getElem?
   intro j
   by_cases hj : id = j
   ·subst hj; rw [List.getElem?_set_self hid, hq]
   ·rw [List.getElem?_set_ne hj]
  rw [hsame] at hK
  have hm0 : m = 0 := by have := hp.le; rw [h0] at this; exact Nat.le_zero.1 this
  have hvy : RepV σ F w' (.own id k 0 m) (.slice A 0 cap) := by
   have h7 := hy ▸ hr.ev y
   rw [hv, h0] at h7
   rw [hm0]
   exact h7
  exact hn _ _ _ hK ⟨σ, F, hr.put hd hvy⟩
 ·have hpos : 0 < xs.length := List.length_pos_iff.2 h0
  obtain ⟨gb, b, c, rfl⟩ := h2.pos (by rw [hrl]; exact hpos)
  rw [hrl] at h1 h2 h3
  have hv := h3.at hpos
  rw [hv]
  obtain ⟨_, h4, h5, cur, h6, h7, h8, h9⟩ := h2.at
  rw [hrl] at h4
  have hlt := hr.heap.lt _ _ (.at h1)
  have hfl := Z2e hk
  have hkpos : ∀ t, t < xs.length * k → 0 < k := fun t ht => by
   rcases Nat.eq_zero_or_pos k with h | h
   ·rw [h, Nat.mul_zero] at ht; omega
   ·exact h
  have hcell : ∀ t, t < xs.length * k → ∃ u, cur[b * k + t]? = some u ∧ xs.flatten[t]? = some u := fun t ht => by
   obtain ⟨i, j, hi, hj, rfl⟩ := Zq ht
   have hi2 := List.getElem?_eq_getElem hi
   have hcl := hk _ (List.getElem_mem hi)
   have hj2 : j < (xs[i]).length := by rw [hcl]; exact hj
   obtain ⟨u, k1, k2, k3⟩ := h9 i (xs[i].map .v) j (.v xs[i][j]) (by unfold rowV; rw [List.getElem?_map, hi2]; rfl) (by rw [List.getElem?_map, List.getElem?_eq_getElem hj2]; rfl)
   have hu : u = xs[i][j] := by cases k3; rfl
   refine ⟨u, ?_, ?_⟩
   ·rw [← k1, Nat.add_mul]; congr 1; omega
   ·rw [Z2f hk hi2 hj, List.getElem?_eq_getElem hj2, hu]
  have hH : Sort.Holds _root_.id w gb (b * k) xs.flatten.toArray := fun t ht => by
   have ht' : t < xs.length * k := by simpa [hfl] using ht
   obtain ⟨u, k1, k2⟩ := hcell t ht'
   have k3 : xs.flatten.toArray[t]! = u := by
    rw [getElem!_pos _ t ht]
    have : xs.flatten.toArray[t]? = some u := by simpa using k2
    rw [Array.getElem?_eq_getElem ht] at this
    exact Option.some.inj this
   refine ⟨?_, ?_⟩
   ·rw [k3]
    simp only [World.cell?, h6]
    simpa using k1
   ·simp [World.frozen?, h6]
  refine (hp.atSome h0 gb (b * k) c w hH hlt.1 h4).mono ?_
  rintro e w' ⟨rfl, n, os, rfl⟩
  have hyl : ys.flatten.length = xs.length * k := by rw [Z2e hp.size, hp.len]
  let Y := ys.flatten.toArray
  let cur' := Sort.putCells _root_.id (b * k) Y cur
  have hw1 : (Sort.putRow _root_.id (Sort.ahead w n) gb (b * k) Y).heap[gb]? = some (.cells cur' e0 (0, 0)) := by
   simp only [Sort.putRow, Sort.mapBlock, Array.getElem?_modify, if_true]
   rw [show (Sort.ahead w n).heap = w.heap from rfl, h6]
   rfl
  have hsz : (Sort.putRow _root_.id (Sort.ahead w n) gb (b * k) Y).heap.size = w.heap.size := by simp
  have hw : (Sort.grow (Sort.putRow _root_.id (Sort.ahead w n) gb (b * k) Y) os).heap[gb]? = some (.cells cur' e0 (0, 0)) := by
   rw [Sort.heap_grow_old _ _ (by rw [hsz]; exact hlt.1)]; exact hw1
  have hcs : cur'.size = cur.size := by simp [cur', Sort.putCells]
  have hget : ∀ t, t < xs.length * k → ∀ u, ys.flatten[t]? = some u → cur'[b * k + t]? = some u := fun t ht u hu => by
   obtain ⟨u0, k1, _⟩ := hcell t ht
   simp only [cur', Sort.putCells, Array.getElem?_mapIdx, k1, Option.map_some]
   rw [if_pos ⟨by omega, by simp only [Y, List.size_toArray, hyl]; omega⟩, show b * k + t - b * k = t by omega]
   have htl : t < Y.size := by simp only [Y, List.size_toArray, hyl]; exact ht
   have : Y[t]? = some u := by simpa [Y] using hu
   rw [getElem!_pos Y t htl]
   rw [Array.getElem?_eq_getElem htl] at this
   exact congrArg some (Option.some.inj this)
  refine hn _ _ _ hK ⟨σ, F, (hr.turnObj (w' := Sort.grow (Sort.putRow _root_.id (Sort.ahead w n) gb (b * k) Y) os) (ob := .row e0 k (rowV ys)) hid h1 rfl rfl rfl ?_ (fun g' hg' hne => ?_) ?_).put hd (by simpa using RepV.own (σ := σ) (F := F) id k 0 m gb b c xs.length h1 (by rw [Nat.zero_add]; exact hp.le) h4)⟩
  ·show w.heap.size ≤ ((Sort.putRow _root_.id (Sort.ahead w n) gb (b * k) Y).heap ++ os).size
   rw [Array.size_append, hsz]; omega
  ·rw [Sort.heap_grow_old _ _ (by rw [hsz]; exact hg')]
   simp only [Sort.putRow, Sort.mapBlock, Array.getElem?_modify]
   rw [if_neg (fun e => hne e.symm)]
   rfl
  ·have hyr : (rowV ys).length = xs.length := by simp [rowV, hp.len]
   refine .inr ⟨gb, b, c, cur', by rw [hyr]; exact h1, by rw [hyr]; exact h4, h5, hw, by rw [hcs]; exact h7, fun cs hcs' => ?_, fun i cs j x hi hj => ?_⟩
   ·obtain ⟨i, hi⟩ := List.getElem?_of_mem hcs'
    obtain ⟨c', k1, rfl⟩ := Z6r hi
    rw [List.length_map]; exact hp.size c' (List.mem_of_getElem? k1)
   ·obtain ⟨c', k1, rfl⟩ := Z6r hi
    rw [List.getElem?_map, Option.map_eq_some_iff] at hj
    obtain ⟨u, k2, rfl⟩ := hj
    have hcl := hp.size c' (List.mem_of_getElem? k1)
    have hj' : j < k := by have := (List.getElem?_eq_some_iff.1 k2).1; omega
    have hi' : i < xs.length := by have := (List.getElem?_eq_some_iff.1 k1).1; rw [hp.len] at this; exact this
    have htl : i * k + j < xs.length * k := by
     have : (i + 1) * k ≤ xs.length * k := Nat.mul_le_mul_right _ hi'
     rw [Nat.succ_mul] at this; omega
    refine ⟨u, ?_, hp.one c' (List.mem_of_getElem? k1) u (List.mem_of_getElem? k2), .v _⟩
    rw [Nat.add_mul, Nat.add_assoc]
    exact hget _ htl u ((Z2f hp.size k1 hj').trans k2)
theorem Rep.takeRow {s : St} (hr : Rep X s a w) {i id e sz len : Nat} {es : List (List AV)} (hi : envGet s.env i = .own id sz 0 len) (hq : s.heap[id]? = some (.row e sz es)) (hf : len ≤ es.length) (hm : X.m ≤ id) :
  Rep X ⟨(i, .own id sz 0 len) :: Zo (Z5 id) s.env, (s.heap.map (AObj.sub (Z5 id))).set id (.row e sz (es.take len))⟩ a w := by
 obtain ⟨σ, F, hr⟩ := hr
 have hid : id < s.heap.length := (List.getElem?_eq_some_iff.1 hq).1
 have hob := hr.heap.obj id _ hq
 have hv := hi ▸ hr.env i
 have hRF : ∀ x y, RepF F w x y → RepF F w x y := fun x y h => h
 have fin : ∀ (k : Option Blk), (∀ q g, k = some q → q.has g → g < w.heap.size ∧ ¬ F g ∧ (hasB σ id g ∨ w.heap.size ≤ g)) → RepO (upd σ id k) F w id (.row e sz (es.take len)) → RepV (upd σ id k) F w (.own id sz 0 len) (a.tmps.getD i undef) →
   Rep X ⟨(i, .own id sz 0 len) :: Zo (Z5 id) s.env, (s.heap.map (AObj.sub (Z5 id))).set id (.row e sz (es.take len))⟩ a w := by
  intro k hk hO hV
  have h1 := hr.change (w' := w) (F' := F) (f := Z5 id) hid (k := k) rfl rfl rfl (Nat.le_refl _) (fun _ _ _ => rfl) (fun _ h => h) (fun _ h => .inl h) hk (Z3m hRF) (Z3l hRF) Z1y (fun h => absurd h (Nat.not_lt.2 hm)) hO
  refine ⟨_, F, h1.defers, h1.size, fun j => ?_, h1.heap, h1.keep, h1.own, h1.fnew, h1.stab, h1.hm⟩
  simp only [envGet]
  split
  ·rename_i e; subst e; exact hV
  ·exact h1.env j
 have htl : (es.take len).length = len := by rw [List.length_take]; omega
 rcases RepV.ownv hv with ⟨h1, _, h0, h2⟩ | ⟨g, b, c, n, h1, hn, hc, h2⟩
 ·subst h0
  refine fin (some .nil) (fun q g h hg => by cases h; exact hg.elim) (.inl ⟨Z0 _ _ _, by simp⟩) ?_
  rw [h2]; exact .own0 _ _ (Z0 _ _ _)
 ·rcases hob with ⟨h3, _⟩ | ⟨g', b', c', cur, h3, h4, h5, h6, h7, h8, h9⟩
  ·rw [h1] at h3; cases h3
  ·rw [h1] at h3
   injection h3 with h3
   injection h3 with e1 e2 e3 e4
   subst e1 e2 e3
   have hlt := hr.heap.lt _ _ (.at h1)
   refine fin (some (.at_ g b c len)) (fun q1 g1 h hg1 => ?_) (.inr ⟨g, b, c, cur, ?_, ?_, h5, h6, h7, fun cs hcs => h8 cs (List.mem_of_mem_take hcs), fun j cs q x hj hx => ?_⟩) ?_
   ·cases h
    have e1 : g1 = g := hg1
    subst e1
    exact ⟨hlt.1, hlt.2, .inl (.at h1)⟩
   ·rw [Z0, htl]
   ·rw [htl]; omega
   ·rw [List.getElem?_take] at hj
    split at hj
    ·exact h9 j cs q x hj hx
    ·cases hj
   ·rcases h2 with h2 | ⟨h2, h3, h10, A, h11⟩
    ·rw [h2]
     exact RepV.own (σ := upd σ id (some (.at_ g b c len))) (F := F) (w := w) id sz 0 len g b c len (Z0 _ _ _) (by omega) (by omega)
    ·subst h2
     rw [h11]
     exact .ownz _ _ _ g b c 0 A (Z0 _ _ _) rfl (by omega)
end
end Go.Proofs.YtnehieeplbgaiacDoor.Eng
set_option linter.unusedVariables false
set_option linter.unusedSimpArgs false
namespace Go.Proofs.YtnehieeplbgaiacDoor.Eng
open Go Go.RowKit
def Says (keep : List Nat) (h : List AObj) (args : List AV) (h0 : List AObj) (args' : List AV) : Prop :=
 args'.length = args.length ∧ h0.length = keep.length ∧ ∀ (σ : Nat → Option Blk) (F : Nat → Prop) (w : World), HRep σ F w h → HRep (selσ keep σ) F w h0 ∧ ∀ (j : Nat) (x x' : AV) (v : Value), args[j]? = some x → args'[j]? = some x' → RepV σ F w x v → RepV (selσ keep σ) F w x' v
section
variable {P : Program} {T : Tab} {X : Ctx} {σ σ' : Nat → Option Blk} {F F' : Nat → Prop} {s s' : St} {a : Act} {w w' : World} {o : Oper} {c : Prop} {x : AV} {v : Value} {K : St → Prop}
def Z9t (ds : List Nat) : AV → AV
 | .own i sz off len => if i ∈ ds then .any else .own i sz off len
 | .ptr i k sz j => if i ∈ ds then .any else .ptr i k sz j
 | .nm i k => if i ∈ ds then .any else .nm i k
 | x => x
def St.backD (s : St) (ds keep : List Nat) (h' : List AObj) : St := ⟨Zo (Z9t ds) s.env, Z1j keep (s.heap.map (AObj.sub (Z9t ds))) h'⟩
def backσD (n m : Nat) (ds : List Nat) (σ σ' : Nat → Option Blk) : Nat → Option Blk := fun id => if id < n then (if id ∈ ds then none else σ id) else σ' (id - n + m)
theorem RepAt.backD (hr : RepAt X σ F s a w) {keep : List Nat} (hnd : keep.Nodup) (hin : ∀ i ∈ keep, i < s.heap.length) {h' : List AObj} {ret : AV} {rv : Value} (hret : RepV σ' F' w' ret rv) (hh : HRep σ' F' w' h') (hk : Keep (ownB (selσ keep σ)) w w')
  (hown : ∀ id g, hasB σ' id g → ownB (selσ keep σ) g ∨ w.heap.size ≤ g) (hF' : ∀ b, F' b → F b ∨ ownB (selσ keep σ) b ∨ w.heap.size ≤ b) (hst : ∀ id, id < keep.length → σ' id = selσ keep σ id ∨ σ' id = none) (hlen : keep.length ≤ h'.length)
  {ds : List Nat} (hds : ∀ i ∈ ds, i ∈ keep) (hlive : ∀ k i : Nat, keep[k]? = some i → i ∉ ds → h'[k]? ≠ some AObj.dead) (hdead : ∀ k i : Nat, keep[k]? = some i → i ∈ ds → h'[k]? = some AObj.dead) :
  RepAt X (backσD s.heap.length keep.length ds σ σ') (fun b => F b ∨ F' b) (s.backD ds keep h') a w' ∧ RepV (backσD s.heap.length keep.length ds σ σ') (fun b => F b ∨ F' b) w' (ret.sub (Z1f keep s.heap.length)) rv := by
 have hsame : ∀ k i, keep[k]? = some i → i ∉ ds → σ' k = selσ keep σ k := fun k i hki hnd' => by
  have hk' : k < keep.length := (List.getElem?_eq_some_iff.1 hki).1
  rcases hst k hk' with h | h
  ·exact h
  ·have hlt : k < h'.length := by omega
   have hob := hh.obj k _ (List.getElem?_eq_getElem hlt)
   have hd := hlive k i hki hnd'
   rw [List.getElem?_eq_getElem hlt] at hd
   cases ho : h'[k] with
   | dead => rw [ho] at hd; exact absurd rfl hd
   | box e cs => rw [ho] at hob; obtain ⟨g, vs, h1, _⟩ := hob; rw [h] at h1; cases h1
   | row e sz es =>
    rw [ho] at hob
    rcases hob with ⟨h1, _⟩ | ⟨g, b, c, cur, h1, _⟩ <;> (rw [h] at h1; cases h1)
   | mapo es => rw [ho] at hob; obtain ⟨g, arr, clock, h1, _⟩ := hob; rw [h] at h1; cases h1
   | iter last es => rw [ho] at hob; obtain ⟨g, om, since, seen, c0, h1, _⟩ := hob; rw [h] at h1; cases h1
   | lin e ei sz isz part hole es => rw [ho] at hob; obtain ⟨R, B, V, h1, _⟩ := hob; rw [h] at h1; cases h1
 have hsel : ∀ k i, keep[k]? = some i → i ∉ ds → σ' k = σ i := fun k i hi hn => by
  rw [hsame k i hi hn]; simp [selσ, hi]
 have hkill : ∀ k i, keep[k]? = some i → i ∈ ds → σ' k = none := fun k i hi hn => by
  exact hh.obj k _ (hdead k i hi hn)
 have hOB : ∀ g, ownB (selσ keep σ) g → ∃ i, i ∈ keep ∧ hasB σ i g := fun g hg => by
  obtain ⟨k, h⟩ := hg
  obtain ⟨i, hi, h1⟩ := Z2o h
  exact ⟨i, List.mem_of_getElem? hi, h1⟩
 have hFb : ∀ b, F b → w'.heap[b]? = w.heap[b]? := fun b hb => hk.block b (hr.heap.flt b hb) (fun hg => by
  obtain ⟨i, _, h1⟩ := hOB b hg
  exact (hr.heap.lt _ _ h1).2 hb)
 let σ2 := backσD s.heap.length keep.length ds σ σ'
 let F2 : Nat → Prop := fun b => F b ∨ F' b
 have hold : ∀ id, id < s.heap.length → id ∉ ds → σ2 id = σ id := fun id hid hn => by simp [σ2, backσD, hid, hn]
 have hdd : ∀ id, id < s.heap.length → id ∈ ds → σ2 id = none := fun id hid hn => by simp [σ2, backσD, hid, hn]
 have hext : ∀ id k, id ∉ ds → σ id = some k → σ2 id = some k := fun id k hn h => by
  have hid : id < s.heap.length := Nat.lt_of_not_le fun hge => by rw [hr.heap.out id hge] at h; cases h
  rw [hold id hid hn]; exact h
 have hRF : ∀ x y, RepF F w x y → RepF F2 w' x y := fun x y h => h.mono (fun _ h => .inl h) hFb
 have hRF' : ∀ x y, RepF F' w' x y → RepF F2 w' x y := fun x y h => h.mono (fun _ h => .inr h) (fun _ _ => rfl)
 have hRV : ∀ x y, RepV σ F w x y → RepV σ2 F2 w' (x.sub (Z9t ds)) y := fun x y h => by
  refine (h.mono (fun _ h => .inl h) hFb : RepV σ F2 w' x y).sub (fun _ _ h => h) (fun id sz off len y h => ?_) (fun id i sz j y h => ?_) (fun id q y h => ?_)
  ·simp only [Z9t]
   split
   ·exact .f _ _ (.any _)
   ·rename_i hn
    cases h with
    | f _ _ h => cases h
    | own0 _ _ h => exact .own0 _ _ (hext _ _ hn h)
    | own _ _ _ _ g b c n h hn' hc => exact .own _ _ _ _ g b c n (hext _ _ hn h) hn' hc
    | ownz _ _ _ g b c n a h hn' hc => exact .ownz _ _ _ g b c n a (hext _ _ hn h) hn' hc
  ·simp only [Z9t]
   split
   ·exact .f _ _ (.any _)
   ·rename_i hn
    cases h with
    | f _ _ h => cases h
    | ptr _ _ _ _ g b c n h => exact .ptr _ _ _ _ g b c n (hext _ _ hn h)
  ·simp only [Z9t]
   split
   ·exact .f _ _ (.any _)
   ·rename_i hn
    cases h with
    | f _ _ h => cases h
    | nm _ _ gs V h h1 => exact .nm _ _ gs V (hext _ _ hn h) h1
 have hback : ∀ k q, σ' k = some q → σ2 (Z4r keep s.heap.length k) = some q := fun k q h => by
  unfold Z4r
  split
  ·rename_i i hi
   by_cases hn : i ∈ ds
   ·rw [hkill k i hi hn] at h; cases h
   ·rw [hold i (hin i (List.mem_of_getElem? hi)) hn, ← hsel k i hi hn]; exact h
  ·rename_i hi
   have hge : keep.length ≤ k := by simpa using hi
   simp only [σ2, backσD]
   rw [if_neg (by omega), show s.heap.length + (k - keep.length) - s.heap.length + keep.length = k by omega]
   exact h
 have hRV' : ∀ x y, RepV σ' F' w' x y → RepV σ2 F2 w' (x.sub (Z1f keep s.heap.length)) y := fun x y h => by
  refine h.sub hRF' (fun id sz off len y h => ?_) (fun id i sz j y h => ?_) (fun id q y h => ?_)
  ·simp only [Z1f]
   cases h with
   | f _ _ h => cases h
   | own0 _ _ h => exact .own0 _ _ (hback _ _ h)
   | own _ _ _ _ g b c n h hn hc => exact .own _ _ _ _ g b c n (hback _ _ h) hn hc
   | ownz _ _ _ g b c n a h hn hc => exact .ownz _ _ _ g b c n a (hback _ _ h) hn hc
  ·simp only [Z1f]
   cases h with
   | f _ _ h => cases h
   | ptr _ _ _ _ g b c n h => exact .ptr _ _ _ _ g b c n (hback _ _ h)
  ·simp only [Z1f]
   cases h with
   | f _ _ h => cases h
   | nm _ _ gs V h h1 => exact .nm _ _ gs V (hback _ _ h) h1
 have hhl : (Z1j keep (s.heap.map (AObj.sub (Z9t ds))) h').length = s.heap.length + (h'.length - keep.length) := by simp [Z1j]
 have hcase : ∀ id g, hasB σ2 id g → (id < s.heap.length ∧ id ∉ ds ∧ hasB σ id g) ∨ (s.heap.length ≤ id ∧ hasB σ' (id - s.heap.length + keep.length) g) := fun id g h => by
  obtain ⟨q, h, hg⟩ := h
  by_cases hid : id < s.heap.length
  ·by_cases hn : id ∈ ds
   ·rw [hdd id hid hn] at h; cases h
   ·exact .inl ⟨hid, hn, q, by rw [← hold id hid hn]; exact h, hg⟩
  ·simp only [σ2, backσD, if_neg hid] at h
   exact .inr ⟨by omega, q, h, hg⟩
 have hselB : ∀ k i g, keep[k]? = some i → i ∉ ds → hasB σ i g → hasB σ' k g := fun k i g hi hn h => by
  obtain ⟨q, h1, h2⟩ := h
  exact ⟨q, (hsel k i hi hn).trans h1, h2⟩
 have hnewg : ∀ k g, keep.length ≤ k → hasB σ' k g → ∀ i, i ∉ ds → ¬ hasB σ i g := fun k g hk' h i hn h1 => by
  rcases hown k g h with h2 | h2
  ·obtain ⟨i2, hi2, h3⟩ := hOB g h2
   have := hr.heap.inj _ _ _ h1 h3
   subst this
   obtain ⟨q, hq⟩ := List.getElem?_of_mem hi2
   have h4 := hselB q i g hq hn h1
   have := hh.inj _ _ _ h h4
   have := (List.getElem?_eq_some_iff.1 hq).1
   omega
  ·have := (hr.heap.lt _ _ h1).1; omega
 refine ⟨⟨hr.defers.keep fun D hD hn => ⟨hk.block D (Z1n hD) (fun hg => by obtain ⟨i, _, h⟩ := hOB D hg; exact hr.heap.nodef h hD), fun h => h.elim hn (fun h => by
  rcases hF' D h with h | h | h
  ·exact hn h
  ·obtain ⟨i, _, h⟩ := hOB D h; exact hr.heap.nodef h hD
  ·have := Z1n hD; omega)⟩, hr.size, fun i => by rw [St.backD]; simp only [Zn]; exact hRV _ _ (hr.env i), ⟨fun id ob ho => ?_, fun id hid => ?_, fun id id' g h1 h2 => ?_, fun id g h => ?_, fun b hb => ?_, hr.heap.lay.mono (fun _ h => .inl h) hFb⟩, ?_, fun id g h => ?_, fun b hb => ?_, fun id hid => ?_, ?_⟩, hRV' _ _ hret⟩
 ·simp only [St.backD, Z1j] at ho
  rcases Nat.lt_or_ge id s.heap.length with hlt | hge
  ·rw [List.getElem?_append_left (by simpa using hlt), List.getElem?_mapIdx, List.getElem?_map, List.getElem?_eq_getElem hlt] at ho
   simp only [Option.map_some, Option.some.injEq, List.length_map] at ho
   split at ho
   ·rename_i k hk'
    have hki := idx_some hk'
    have hkl : k < h'.length := by have := (List.getElem?_eq_some_iff.1 hki).1; omega
    rw [List.getElem?_eq_getElem hkl, Option.getD_some] at ho
    subst ho
    by_cases hn : id ∈ ds
    ·have hd := hdead k id hki hn
     rw [List.getElem?_eq_getElem hkl] at hd
     injection hd with hd
     rw [hd]
     exact hdd id hlt hn
    ·exact (hh.obj k _ (List.getElem?_eq_getElem hkl)).ren ((hold id hlt hn).trans (hsel k id hki hn).symm) hRF' (fun _ h => ⟨.inr h, rfl⟩) (fun _ _ => rfl) hRV'
   ·rename_i hk'
    subst ho
    refine (hr.heap.obj id _ (List.getElem?_eq_getElem hlt)).ren (hold id hlt (fun h => idx_none hk' (hds _ h))) hRF (fun b hb => ⟨.inl hb, hFb b hb⟩) (fun g h => hk.block g (hr.heap.lt _ _ h).1 (fun hg => ?_)) (fun x y h => hRV x y h)
    obtain ⟨i2, hi2, h3⟩ := hOB g hg
    have := hr.heap.inj _ _ _ h h3
    subst this
    exact idx_none hk' hi2
  ·rw [List.getElem?_append_right (by simpa using hge), List.length_mapIdx, List.length_map, List.getElem?_map, Option.map_eq_some_iff] at ho
   obtain ⟨ob', ho', rfl⟩ := ho
   rw [List.getElem?_drop] at ho'
   refine (hh.obj _ _ ho').ren ?_ hRF' (fun _ h => ⟨.inr h, rfl⟩) (fun _ _ => rfl) hRV'
   simp only [backσD]
   rw [if_neg (by omega), Nat.add_comm]
 ·rw [St.backD, hhl] at hid
  simp only [backσD]
  rw [if_neg (by omega)]
  exact hh.out _ (by omega)
 ·rcases hcase _ _ h1 with ⟨e1, n1, h3⟩ | ⟨e1, h3⟩ <;> rcases hcase _ _ h2 with ⟨e2, n2, h4⟩ | ⟨e2, h4⟩
  ·exact hr.heap.inj _ _ _ h3 h4
  ·exact absurd h3 (hnewg _ _ (by omega) h4 _ n1)
  ·exact absurd h4 (hnewg _ _ (by omega) h3 _ n2)
  ·have := hh.inj _ _ _ h3 h4
   omega
 ·rcases hcase _ _ h with ⟨e1, n1, h3⟩ | ⟨e1, h3⟩
  ·have h5 := hr.heap.lt _ _ h3
   refine ⟨Nat.lt_of_lt_of_le h5.1 hk.size, fun hb => ?_⟩
   rcases hb with hb | hb
   ·exact h5.2 hb
   ·rcases hF' g hb with h6 | h6 | h6
    ·exact h5.2 h6
    ·obtain ⟨i2, hi2, h7⟩ := hOB g h6
     obtain ⟨q, hq⟩ := List.getElem?_of_mem hi2
     have e9 := hr.heap.inj _ _ _ h3 h7
     subst e9
     exact (hh.lt _ _ (hselB q id g hq n1 h7)).2 hb
    ·omega
  ·have h5 := hh.lt _ _ h3
   refine ⟨h5.1, fun hb => ?_⟩
   rcases hb with hb | hb
   ·rcases hown _ _ h3 with h6 | h6
    ·obtain ⟨i2, _, h7⟩ := hOB g h6
     exact (hr.heap.lt _ _ h7).2 hb
    ·have := hr.heap.flt _ hb; omega
   ·exact h5.2 hb
 ·rcases hb with hb | hb
  ·exact Nat.lt_of_lt_of_le (hr.heap.flt b hb) hk.size
  ·exact hh.flt b hb
 ·refine hr.keep.trans hk (fun g hg hm => ⟨hm, fun hob => ?_⟩)
  obtain ⟨i, _, h⟩ := hOB g hob
  rcases hr.own _ _ h with h1 | h1
  ·exact hm h1
  ·omega
 ·rcases hcase _ _ h with ⟨_, _, h3⟩ | ⟨_, h3⟩
  ·exact hr.own _ _ h3
  ·rcases hown _ _ h3 with h4 | h4
   ·obtain ⟨i, _, h5⟩ := hOB g h4
    exact hr.own _ _ h5
   ·exact .inr (Nat.le_trans hr.keep.size h4)
 ·rcases hb with hb | hb
  ·exact hr.fnew b hb
  ·rcases hF' b hb with h4 | h4 | h4
   ·exact hr.fnew b h4
   ·obtain ⟨i, _, h5⟩ := hOB b h4
    rcases hr.own _ _ h5 with h6 | h6
    ·exact .inr (.inl h6)
    ·exact .inr (.inr h6)
   ·exact .inr (.inr (Nat.le_trans hr.keep.size h4))
 ·have hlt : id < s.heap.length := Nat.lt_of_lt_of_le hid hr.hm
  by_cases hn : id ∈ ds
  ·exact .inr (hdd id hlt hn)
  ·rw [show backσD s.heap.length keep.length ds σ σ' id = σ id from hold id hlt hn]
   exact hr.stab id hid
 ·rw [St.backD, hhl]; have := hr.hm; omega
theorem Zj8 {fop : Operand} {ar : Array Operand} {ts : Array Nat} (ho : o.op = .call { callee := .value fop, args := ar, argTypes := ts }) {f : Nat} {caps : List AV} (hf : s.ev fop = .fn f caps) (hE : Enters P f) (keep : List Nat) (hnd : keep.Nodup) (hin : ∀ i ∈ keep, i < s.heap.length)
  {args' : List AV} {h0 : List AObj} (hS : Says keep s.heap (ar.toList.map s.ev ++ caps) h0 args') {post : AV → List AObj → Prop} (spec : FSpec P f h0 args' post) (hd : dOK X.n o.dst)
  (hK : ∀ ret h', post ret h' → keep.length ≤ h'.length → ∃ ds : List Nat, (∀ i ∈ ds, i ∈ keep) ∧ (∀ k i : Nat, keep[k]? = some i → i ∉ ds → h'[k]? ≠ some AObj.dead) ∧ (∀ k i : Nat, keep[k]? = some i → i ∈ ds → h'[k]? = some AObj.dead) ∧ K (St.put (s.backD ds keep h') o.dst (ret.sub (Z1f keep s.heap.length)))) : opWP P X o K s := by
 rintro Qc next a w hn ⟨σ, F, hr⟩
 obtain ⟨us, hfv, hul, hur⟩ := RepV.fnv (hf ▸ hr.ev fop)
 obtain ⟨hal, h0l, hS⟩ := hS
 obtain ⟨hS1, hS2⟩ := hS σ F w hr.heap
 let vs : List Value := ar.toList.map a.eval ++ us
 have hl : args'.length = vs.length := by rw [hal]; simp [vs, hul]
 have hrep : ∀ (j : Nat) (x : AV) (u : Value), args'[j]? = some x → vs[j]? = some u → RepV (selσ keep σ) F w x u := fun j x u hx hu => by
  have hj : j < (ar.toList.map s.ev ++ caps).length := by
   rw [← hal]; exact (List.getElem?_eq_some_iff.1 hx).1
  refine hS2 j _ x u (List.getElem?_eq_getElem hj) hx ?_
  rcases Nat.lt_or_ge j ar.toList.length with h1 | h1
  ·rw [List.getElem_append_left (by simpa using h1), List.getElem_map]
   simp only [vs] at hu
   rw [List.getElem?_append_left (by simpa using h1), List.getElem?_map, List.getElem?_eq_getElem h1] at hu
   injection hu with hu
   rw [← hu]
   exact hr.ev _
  ·simp only [vs] at hu
   rw [List.getElem?_append_right (by simpa using h1), List.length_map] at hu
   rw [List.getElem_append_right (by simpa using h1)]
   simp only [List.length_map]
   exact hur _ _ u (List.getElem?_eq_getElem _) hu
 have hcalls := spec (selσ keep σ) F w vs hS1 hl hrep
 have hrun : (execOp a.eval o).run P w = .ok (.enter f vs.toArray) w := by
  have hva : ar.map a.eval ++ us.toArray = vs.toArray := by
   apply Array.ext'
   simp [vs]
  simp [execOp, ho, resolve, hfv, Deferred.ofValue, invoke, hva, hE vs.toArray w]
 unfold Oper.wp
 rw [hrun]
 show Calls P f vs.toArray w _
 refine hcalls.mono ?_
 rintro e w' ⟨ret, h', σ', F', rv, hp, rfl, h1, h2, h3, h4, h5, h6, h7⟩
 have hlen : keep.length ≤ h'.length := by rw [← h0l]; exact h7
 obtain ⟨ds, hds, hlive, hdead, hK'⟩ := hK ret h' hp hlen
 obtain ⟨h8, h9⟩ := hr.backD hnd hin h1 h2 h3 h4 h5 (fun id hid => h6 id (by rw [h0l]; exact hid)) hlen hds hlive hdead
 exact hn _ _ _ hK' ⟨_, _, h8.put hd h9⟩
def RetW (T : Tab) (fn : Func) (m : Nat) (post : AV → List AObj → Prop) (s : St) : Prop :=
 match Z5g T s fn.results.toList with
 | some (c, xs) => c ∧ ∃ extra : List Nat, (List.range m ++ extra).Nodup ∧ (∀ i ∈ extra, i < s.heap.length) ∧ ∃ ret h', post ret h' ∧ Says (List.range m ++ extra) s.heap [retAV xs] h' [ret]
 | none => False
def QretW (T : Tab) (fn : Func) (m : Nat) (post : AV → List AObj → Prop) : Exit → St → Prop
 | .normal, s => RetW T fn m post s
 | .ret, s => RetW T fn m post s
 | _, _ => False
theorem FSpec.of_WPw {P : Program} {T : Tab} (hT : Zh P T) {f : Nat} {fn : Func} {c : Code} (hf : P.funcs[f]? = some fn) (hb : fn.body = some c) {h0 : List AObj} {args : List AV} {post : AV → List AObj → Prop}
  (h : ∀ X : Ctx, X.n = args.length + (fn.ntmps - args.length) → X.m = h0.length → X.ro = none → X.rf = false → WP P X c (QretW T fn h0.length post) ⟨Z1d 0 args, h0⟩) : FSpec P f h0 args post := by
 intro σ F w vs hh hl hargs
 let X : Ctx := ⟨args.length + (fn.ntmps - args.length), w, ownB σ, F, h0.length, σ, none, false⟩
 refine calls_of_wp hf hb ?_
 have hrep : RepAt X σ F ⟨Z1d 0 args, h0⟩ { tmps := vs.toArray ++ Array.replicate (fn.ntmps - vs.toArray.size) undef, defers := [] } w := by
  refine ⟨rfl, by simp [X, hl], fun i => ?_, hh, Keep.refl _ _, fun id g h => .inl ⟨id, h⟩, fun b hb => .inl hb, fun id _ => .inl rfl, Nat.le_refl _⟩
  rw [envGet_enum, if_pos (Nat.zero_le _), Nat.sub_zero]
  cases hx : args[i]? with
  | none => exact .f _ _ (.any _)
  | some x =>
   have hlt : i < vs.length := by have := (List.getElem?_eq_some_iff.1 hx).1; omega
   have : (vs.toArray ++ Array.replicate (fn.ntmps - vs.toArray.size) undef).getD i undef = vs[i] := by
    rw [Array.getD_eq_getD_getElem?, Array.getElem?_append_left (by simpa using hlt)]
    simp [hlt]
   rw [this]
   exact hargs i x _ hx (List.getElem?_eq_getElem hlt)
 refine Code.wp_mono' ((WP.wide rfl).1 (h X rfl rfl rfl rfl _ _ ⟨σ, F, hrep⟩)) ?_
 have fin : ∀ s a w', RetW T fn h0.length post s → Rep X s a w' → a.defers = [] ∧ ∃ v, (results fn a.tmps).run P w' = .ok v w' ∧ ∃ ret h' σ' F' rv, post ret h' ∧ Ending.returned v = .returned rv ∧ RepV σ' F' w' ret rv ∧ HRep σ' F' w' h' ∧ Keep (ownB σ) w w' ∧
   (∀ id g, hasB σ' id g → ownB σ g ∨ w.heap.size ≤ g) ∧ (∀ b, F' b → F b ∨ ownB σ b ∨ w.heap.size ≤ b) ∧ (∀ id, id < h0.length → σ' id = σ id ∨ σ' id = none) ∧ h0.length ≤ h'.length := by
  rintro s a w' hret ⟨σ', F', hr⟩
  unfold RetW at hret
  split at hret
  ·rename_i c xs hres
   obtain ⟨hc, extra, hnd, hin, ret, h', hpost, _, hhl, hS⟩ := hret
   obtain ⟨v, hv, hrv⟩ := Z8j hT hr hres hc
   obtain ⟨hS1, hS2⟩ := hS σ' F' w' hr.heap
   refine ⟨hr.defers, v, hv, ret, h', selσ (List.range h0.length ++ extra) σ', F', v, hpost, rfl, hS2 0 _ _ v rfl rfl hrv, hS1, hr.keep, fun id g hs => ?_, hr.fnew, fun id hid => ?_, by rw [hhl]; simp⟩
   ·obtain ⟨i, _, h1⟩ := Z2o hs
    exact hr.own _ _ h1
   ·have : selσ (List.range h0.length ++ extra) σ' id = σ' id := by
     simp [selσ, List.getElem?_append_left (show id < (List.range h0.length).length by simpa using hid), List.getElem?_range hid]
    rw [this]
    exact hr.stab id hid
  ·exact hret.elim
 rintro e a w' ⟨s, hq, hr⟩
 cases e with
 | normal => exact fin s a w' hq hr
 | ret => exact fin s a w' hq hr
 | _ => exact hq.elim
end
end Go.Proofs.YtnehieeplbgaiacDoor.Eng
set_option linter.unusedVariables false
set_option linter.unusedSimpArgs false
namespace Go.Proofs.YtnehieeplbgaiacDoor.Eng
open Go Go.RowKit
section
variable {X : Ctx} {σ σ' : Nat → Option Blk} {F F' : Nat → Prop} {s s' : St} {a : Act} {w w' : World}
def mvN (i n j : Nat) : Nat := if j = i then n else j
def mvA (i n : Nat) : AV → AV
 | .own j sz off len => .own (mvN i n j) sz off len
 | .ptr j k sz q => .ptr (mvN i n j) k sz q
 | .nm j k => .nm (mvN i n j) k
 | x => x
def mvσ (i n : Nat) (σ : Nat → Option Blk) : Nat → Option Blk := fun id => if id = i then none else if id = n then σ i else σ id
def St.moved (s : St) (i : Nat) (o : AObj) : St := ⟨Zo (mvA i s.heap.length) s.env, (s.heap.map (AObj.sub (mvA i s.heap.length))).set i .dead ++ [o.sub (mvA i s.heap.length)]⟩
theorem RepAt.move (hr : RepAt X σ F s a w) {i : Nat} {o : AObj} (ho : s.heap[i]? = some o) : RepAt X (mvσ i s.heap.length σ) F (s.moved i o) a w := by
 have hi : i < s.heap.length := (List.getElem?_eq_some_iff.1 ho).1
 generalize hn : s.heap.length = n at *
 have hout : ∀ id, n ≤ id → σ id = none := fun id hid => hr.heap.out id (by rw [hn]; exact hid)
 have hmv : ∀ j q, σ j = some q → mvσ i n σ (mvN i n j) = some q := fun j q h => by
  unfold mvN mvσ
  by_cases hj : j = i
  ·subst hj; rw [if_pos rfl, if_neg (by omega), if_pos rfl]; exact h
  ·rw [if_neg hj, if_neg hj]
   by_cases hjn : j = n
   ·subst hjn; rw [hout _ (Nat.le_refl _)] at h; cases h
   ·rw [if_neg hjn]; exact h
 have hV : ∀ x y, RepV σ F w x y → RepV (mvσ i n σ) F w (x.sub (mvA i n)) y := fun x y h => by
  refine h.sub (fun _ _ h => h) (fun id sz off len y h => ?_) (fun id k sz j y h => ?_) (fun id q y h => ?_)
  ·simp only [mvA]
   cases h with
   | f _ _ h => cases h
   | own0 _ _ h => exact .own0 _ _ (hmv _ _ h)
   | own _ _ _ _ g b c m h hn hc => exact .own _ _ _ _ g b c m (hmv _ _ h) hn hc
   | ownz _ _ _ g b c m a h hn hc => exact .ownz _ _ _ g b c m a (hmv _ _ h) hn hc
  ·simp only [mvA]
   cases h with
   | f _ _ h => cases h
   | ptr _ _ _ _ g b c m h => exact .ptr _ _ _ _ g b c m (hmv _ _ h)
  ·simp only [mvA]
   cases h with
   | f _ _ h => cases h
   | nm _ _ gs V h h1 => exact .nm _ _ gs V (hmv _ _ h) h1
 have hcase : ∀ id g, hasB (mvσ i n σ) id g → ∃ j, hasB σ j g ∧ id = mvN i n j ∧ id ≠ i := fun id g h => by
  obtain ⟨q, h1, h2⟩ := h
  unfold mvσ at h1
  by_cases e1 : id = i
  ·rw [if_pos e1] at h1; cases h1
  ·rw [if_neg e1] at h1
   by_cases e2 : id = n
   ·rw [if_pos e2] at h1; exact ⟨i, ⟨q, h1, h2⟩, by rw [e2, mvN, if_pos rfl], e1⟩
   ·rw [if_neg e2] at h1; exact ⟨id, ⟨q, h1, h2⟩, by rw [mvN, if_neg e1], e1⟩
 refine ⟨hr.defers, hr.size, fun j => by rw [St.moved, hn]; simp only [Zn]; exact hV _ _ (hr.env j), ⟨fun id ob hob => ?_, fun id hid => ?_, fun id id' g h1 h2 => ?_, fun id g h => ?_, hr.heap.flt, hr.heap.lay⟩, hr.keep, fun id g h => ?_, hr.fnew, fun id hid => ?_, ?_⟩
 ·simp only [St.moved, hn] at hob
  have hl2 : ((s.heap.map (AObj.sub (mvA i n))).set i .dead).length = n := by simp [hn]
  rcases Nat.lt_or_ge id n with hlt | hge
  ·rw [List.getElem?_append_left (by rw [hl2]; exact hlt), List.getElem?_set] at hob
   by_cases e : i = id
   ·subst e
    rw [if_pos rfl, if_pos (by simpa [hn] using hlt)] at hob
    cases hob
    show mvσ i n σ i = none
    simp [mvσ]
   ·rw [if_neg e, List.getElem?_map] at hob
    obtain ⟨q, hq, rfl⟩ := Option.map_eq_some_iff.1 hob
    refine (hr.heap.obj id q hq).ren ?_ (fun _ _ h => h) (fun _ h => ⟨h, rfl⟩) (fun _ _ => rfl) hV
    simp only [mvσ]
    rw [if_neg (fun h => e h.symm), if_neg (by omega)]
  ·rw [List.getElem?_append_right (by rw [hl2]; exact hge), hl2] at hob
   cases hk : id - n with
   | succ k => rw [hk] at hob; simp at hob
   | zero =>
    rw [hk] at hob
    simp at hob
    subst hob
    have e : id = n := by omega
    subst e
    refine (hr.heap.obj i o ho).ren ?_ (fun _ _ h => h) (fun _ h => ⟨h, rfl⟩) (fun _ _ => rfl) hV
    unfold mvσ
    rw [if_neg (by omega), if_pos rfl]
 ·simp only [St.moved, hn, List.length_append, List.length_set, List.length_map, List.length_singleton] at hid
  simp only [mvσ]
  rw [if_neg (by omega), if_neg (by omega)]
  exact hout id (by omega)
 ·obtain ⟨j, h3, e3, _⟩ := hcase _ _ h1
  obtain ⟨k, h4, e4, _⟩ := hcase _ _ h2
  have := hr.heap.inj _ _ _ h3 h4
  subst this
  rw [e3, e4]
 ·obtain ⟨j, h3, _, _⟩ := hcase _ _ h
  exact hr.heap.lt _ _ h3
 ·obtain ⟨j, h3, _, _⟩ := hcase _ _ h
  exact hr.own _ _ h3
 ·have hlt : id < n := by have := hr.hm; omega
  simp only [mvσ]
  by_cases e : id = i
  ·rw [if_pos e]; exact .inr rfl
  ·rw [if_neg e, if_neg (by omega)]; exact hr.stab id hid
 ·have := hr.hm
  simp [St.moved]
  omega
end
end Go.Proofs.YtnehieeplbgaiacDoor.Eng
set_option linter.unusedVariables false
set_option linter.unusedSimpArgs false
namespace Go.Proofs.YtnehieeplbgaiacDoor.Eng
open Go Go.RowKit Go.Shelf Go.Proofs Go.Lib
section
variable {P : Program} {ρ : Ren}
theorem Z6o {ops : Array Oper} {o : Oper} {a : Act} {w : World} {K : Act → World → Prop} {Q : Exit → Act → World → Prop} {E : Prop}
  (hg : o.guard = none) (d x : Operand) (dT sT : TypeId) (hop : o.op = Op.call { callee := Callee.builtin Builtin.append, args := #[d, x], argTypes := #[dT, sT] })
  (v u : Value) (hd : a.eval d = v) (hx : a.eval x = u) {v' : Value} {w' : World} (hr : (Builtin.append_ #[dT, sT] o.type #[v, u]).run P w = .ok v' w') (hK : K (a.put o.dst v') w') :
  if Region.wanted o (yielded ops a.tmps) = true then Oper.wp P o a w K Q else E := by
 have hw : Region.wanted o (yielded ops a.tmps) = true := by simp [Region.wanted, hg]
 rw [if_pos hw]
 unfold Oper.wp
 simp [execOp, hop, resolve, invoke, builtin, hd, hx, hr, Result.andThen]
 exact hK
structure SlL (P : Program) (ρ : Ren) (i : TI) : Prop where
 mixed : P.follows .mixedOrders = true
 t3 : P.underlying (ρ.t 3) = some (TypeDesc.int IntKind.i64)
 a3 : ∀ w, (isAgg (ρ.t 3)).run P w = .ok false w
 z3 : ∀ w, (Go.sizeOf (ρ.t 3)).run P w = .ok 1 w
 v3 : ∀ w, (zeroValue (ρ.t 3)).run P w = .ok (Value.int IntKind.i64 0) w
 t4 : P.underlying (ρ.t 4) = some (TypeDesc.bool)
 a4 : ∀ w, (isAgg (ρ.t 4)).run P w = .ok false w
 z4 : ∀ w, (Go.sizeOf (ρ.t 4)).run P w = .ok 1 w
 v4 : ∀ w, (zeroValue (ρ.t 4)).run P w = .ok (Value.bool false) w
 t24 : P.underlying (ρ.t 24) = some (TypeDesc.slice (ρ.t 9))
 a24 : ∀ w, (isAgg (ρ.t 24)).run P w = .ok false w
 z24 : ∀ w, (Go.sizeOf (ρ.t 24)).run P w = .ok 1 w
 v24 : ∀ w, (zeroValue (ρ.t 24)).run P w = .ok (Value.slice none 0 0) w
 ti : TIOk P (ρ.t 9) i
 pos : 0 < i.size
 bpos : 0 < i.bytes
theorem Z97 {ti : TI} {e : TypeId} (hz : TIOk P e ti) (n : Nat) : ∀ v ∈ (Builtin.zeroCells ti.zero.cells n).toList, v.oneCell' = true := fun v hv => by
 have h1 := hz.one
 rw [List.all_eq_true] at h1
 simp only [Builtin.zeroCells, Array.toList_map, List.mem_map, Array.toList_range, List.mem_range] at hv
 obtain ⟨q, hq, rfl⟩ := hv
 have hp : 0 < ti.zero.cells.size := by
  rcases Nat.eq_zero_or_pos ti.zero.cells.size with h | h
  ·rw [h] at hq; simp at hq
  ·exact h
 have hm := Nat.mod_lt q hp
 rw [getElem!_pos ti.zero.cells _ hm]
 exact h1 _ (Array.getElem_mem_toList hm)
theorem Z9f {ti : TI} {t e ty : TypeId} (ht : P.underlying t = some (.slice e)) (hz : TIOk P e ti) (w : World) (g o n c : Nat) (hn : 0 < n) (cur : Array Value) (hg : w.heap[g]? = some (.cells cur e (0, 0))) (hfit : o + n * ti.size ≤ cur.size) :
  (Builtin.clear_ #[t] ty #[.slice (some ⟨g, o, none⟩) n c]).run P w = .ok (.tuple #[]) (w.setRow g (cur.toList.take o ++ (Builtin.zeroCells ti.zero.cells n).toList ++ cur.toList.drop (o + n * ti.size)).toArray) := by
 have hl : (Builtin.zeroCells ti.zero.cells n).toList.length = n * ti.size := by simp [size_zeroCells, hz.cells]
 have hst := run_storeCells_at (P := P) g o e (Builtin.zeroCells ti.zero.cells n).toList 0 cur w hg (by rw [hl]; simpa using hfit) (Z97 hz n)
 simp only [Nat.add_zero, hl] at hst
 obtain ⟨m, rfl⟩ : ∃ m, n = m + 1 := ⟨n - 1, by omega⟩
 simp [Builtin.clear_, run_underlying ht, hz.zero_run, hst]
def Z4f (cur : Array Value) (b n i sz : Nat) (zs : List Value) : Array Value := (cur.toList.take ((b + i) * sz) ++ ((cur.toList.drop ((b + i + 1) * sz)).take ((n - i - 1) * sz)) ++ zs ++ cur.toList.drop ((b + n) * sz)).toArray
theorem Z1s {cur : Array Value} {o n j : Nat} {v : Value} (h : ((cur.toList.drop o).take n)[j]? = some v) : cur[o + j]? = some v := by
 rw [List.getElem?_take] at h
 split at h
 ·rw [List.getElem?_drop, Array.getElem?_toList] at h; exact h
 ·cases h
set_option maxHeartbeats 4000000 in
set_option maxRecDepth 1000000 in
theorem del_run {ti : TI} (L : SlL P ρ ti) {nm : String} (hf : P.funcs[ρ.f 24]? = some { Body2.n24 ρ with name := nm }) (g b n c i j : Nat) (cur : Array Value) (w : World) (hg : w.heap[g]? = some (.cells cur (ρ.t 9) (0, 0)))
  (hone : ∀ q v, b * ti.size ≤ q → q < (b + n) * ti.size → cur[q]? = some v → v.oneCell' = true) (hj : j = i + 1) (hi : i < n) (hnc : n ≤ c) (hbc : b + c ≤ maxLen) (hsz : cur.size = (b + c) * ti.size) :
  Calls P (ρ.f 24) #[.slice (some ⟨g, b * ti.size, none⟩) n c, .int .i64 i, .int .i64 j] w fun e w' => e = .returned (.slice (some ⟨g, b * ti.size, none⟩) (i + (n - j)) c) ∧ ∃ zs : List Value, zs.length = ti.size ∧ w' = w.drew.setRow g (Z4f cur b n i ti.size zs) := by
 have mixed := L.mixed; have t3 := L.t3; have a3 := L.a3; have z3 := L.z3; have v3 := L.v3; have t4 := L.t4; have a4 := L.a4; have z4 := L.z4; have v4 := L.v4; have t24 := L.t24; have a24 := L.a24; have z24 := L.z24; have v24 := L.v24
 have u3 := run_underlying L.t3; have u4 := run_underlying L.t4; have u24 := run_underlying L.t24
 have z9 : ∀ w, (Go.sizeOf (ρ.t 9)).run P w = .ok ti.size w := fun w => L.ti.size_run
 have hne : ¬ ((i : Int) = (j : Int)) := by omega
 obtain ⟨news, hnews⟩ : ∃ news : List Value, news = (cur.toList.drop ((b + j) * ti.size)).take ((n - j) * ti.size) := ⟨_, rfl⟩
 have m1 : (b + j) * ti.size + (n - j) * ti.size = (b + n) * ti.size := by rw [← Nat.add_mul]; congr 1; omega
 have m2 : (b + n) * ti.size ≤ (b + c) * ti.size := Nat.mul_le_mul_right _ (by omega)
 have m3 : (b + i) * ti.size + ti.size = (b + j) * ti.size := by rw [← Nat.succ_mul]; congr 1; omega
 have hnl : news.length = (n - j) * ti.size := by rw [hnews, List.length_take, List.length_drop, Array.length_toList, hsz]; omega
 obtain ⟨A, hA⟩ : ∃ A : Addr, (if c = j then some (⟨g, b * ti.size, none⟩ : Addr) else some ⟨g, b * ti.size + j * ti.size, none⟩) = some A := by
  split <;> exact ⟨_, rfl⟩
 obtain ⟨cur1, hcur1⟩ : ∃ cur1 : Array Value, cur1 = (cur.toList.take ((b + i) * ti.size) ++ news ++ cur.toList.drop ((b + i) * ti.size + news.length)).toArray := ⟨_, rfl⟩
 have hgd : w.drew.heap[g]? = some (.cells cur (ρ.t 9) (0, 0)) := hg
 have hsrc : Src P w.drew ti.size (n - j) (.slice (some A) (n - j) (c - j)) news := by
  refine Z5c hnl (fun q u hq => ?_) (fun u hu => ?_)
  ·split at hA
   ·rename_i hcj
    have : news.length = 0 := by rw [hnl, show n - j = 0 by omega, Nat.zero_mul]
    rw [List.length_eq_zero_iff.1 this] at hq; simp at hq
   ·cases hA
    rw [Addr.add_lit, ← Nat.add_mul]
    show w.drew.cell? _ = _
    rw [hnews] at hq
    simp [World.cell?, hgd, Z1s hq]
  ·rw [hnews] at hu
   obtain ⟨q, hq⟩ := List.getElem?_of_mem hu
   have hql := (List.getElem?_eq_some_iff.1 hq).1
   rw [← hnews, hnl] at hql
   have mb : b * ti.size ≤ (b + j) * ti.size := Nat.mul_le_mul_right _ (by omega)
   exact hone _ u (by omega) (by omega) (Z1s hq)
 have hr1 : ∀ ty, (Builtin.append_ #[ρ.t 24, ρ.t 24] ty #[.slice (some ⟨g, b * ti.size, none⟩) i c, .slice (some A) (n - j) (c - j)]).run P w.drew = .ok (.slice (some ⟨g, b * ti.size, none⟩) (i + (n - j)) c) (w.drew.setRow g cur1) := fun ty => by
  refine Z26 (P := P) L.t24 (.inl ⟨_, L.t24⟩) L.ti hsrc (by omega) (fun ad had => ?_) (fun h => by cases h)
  cases had
  have hst := run_storeCells_at (P := P) g ((b + i) * ti.size) (ρ.t 9) news 0 cur w.drew hgd (by rw [hnl, hsz]; omega) hsrc.one
  rw [Nat.add_zero] at hst
  rw [Addr.add_lit, ← Nat.add_mul, hcur1]
  exact hst
 have hg1 : (w.drew.setRow g cur1).heap[g]? = some (.cells cur1 (ρ.t 9) (0, 0)) := setRow_heap w.drew g cur cur1 (ρ.t 9) _ hgd
 have hc1s : cur1.size = (b + c) * ti.size := by
  rw [hcur1]
  simp only [List.size_toArray, List.length_append, List.length_take, List.length_drop, Array.length_toList, hnl, hsz]
  omega
 have m4 : (b + (i + (n - j))) * ti.size + ti.size = (b + n) * ti.size := by rw [← Nat.succ_mul]; congr 1; omega
 obtain ⟨zs, hzs, hcl⟩ : ∃ zs : List Value, zs.length = ti.size ∧ ∀ ty c', (Builtin.clear_ #[ρ.t 24] ty #[.slice (some ⟨g, b * ti.size + (i + (n - j)) * ti.size, none⟩) (n - (i + (n - j))) c']).run P (w.drew.setRow g cur1) = .ok (.tuple #[]) (w.drew.setRow g (Z4f cur b n i ti.size zs)) := by
  refine ⟨(Builtin.zeroCells ti.zero.cells 1).toList, by simp [size_zeroCells, L.ti.cells], fun ty c' => ?_⟩
  have h1 : n - (i + (n - j)) = 1 := by omega
  rw [h1, ← Nat.add_mul, Z9f L.t24 L.ti _ g ((b + (i + (n - j))) * ti.size) 1 c' (by omega) cur1 hg1 (by rw [hc1s]; omega)]
  have hzl : (Builtin.zeroCells ti.zero.cells 1).toList.length = ti.size := by simp [size_zeroCells, L.ti.cells]
  rw [setRow_setRow]
  congr 2
  have e1 : cur1.toList = cur.toList.take ((b + i) * ti.size) ++ news ++ cur.toList.drop ((b + i) * ti.size + news.length) := by rw [hcur1]
  have l1 : (cur.toList.take ((b + i) * ti.size) ++ news).length = (b + (i + (n - j))) * ti.size := by
   rw [List.length_append, List.length_take, Array.length_toList, hnl, hsz]; omega
  unfold Z4f
  congr 1
  have e2 : (cur.toList.take ((b + i) * ti.size) ++ news ++ cur.toList.drop ((b + i) * ti.size + news.length)).drop ((b + (i + (n - j))) * ti.size + ti.size) = cur.toList.drop ((b + n) * ti.size) := by
   rw [← l1, List.drop_length_add_append, List.drop_drop]
   congr 1
   rw [hnl]; omega
  rw [e1, Nat.one_mul, e2, List.take_append_of_le_length (by omega), List.take_of_length_le (by omega), hnews]
  have e3 : b + i + 1 = b + j := by omega
  have e4 : n - i - 1 = n - j := by omega
  rw [e3, e4]
 have hic : i ≤ c := by omega
 have hjc : j ≤ c := by omega
 have hjn : j ≤ n := by omega
 have hij : i ≤ j := by omega
 clear hj hnews hcur1 hsrc hnl hc1s hg1
 go_enter hf, Body2.n24_ntmps ρ
 go_wp2_with fail
 go_region_law_o (refine Z6o rfl (.tmp 22) (.tmp 25) (ρ.t 24) (ρ.t 24) rfl (.slice (some ⟨g, b * ti.size, none⟩) i c) (.slice (some A) (n - j) (c - j)) (by simp [Act.eval, Act.put]) (by simp [Act.eval, Act.put, hA]) (hr1 _) ?_)
 go_wp2
 go_ret
 exact ⟨rfl, zs, hzs, rfl⟩
theorem Z5e {ti : TI} {dT sT e ty : TypeId} (hu : P.underlying dT = some (.slice e)) (hz : TIOk P e ti) (w : World) (g o dLen dCap : Nat) (a : Addr) (sLen sCap : Nat) (cur : Array Value) (cs : List Value)
  (hg : w.heap[g]? = some (.cells cur e (0, 0))) (k : Nat) (hk : Nat.min sLen dLen = k) (hn : cs.length = k * ti.size)
  (hsrc : ∀ j v, cs[j]? = some v → w.cell? (a.add j) = some v) (hfit : o + cs.length ≤ cur.size) (h1 : ∀ v ∈ cs, v.oneCell' = true) :
  (Builtin.copy_ #[dT, sT] ty #[.slice (some ⟨g, o, none⟩) dLen dCap, .slice (some a) sLen sCap]).run P w =
   .ok (goInt k) (w.setRow g (cur.toList.take o ++ cs ++ cur.toList.drop (o + cs.length)).toArray) := by
 have hl := run_loadCells_list (P := P) w a cs hsrc
 have hst := run_storeCells_at P g o e cs 0 cur w hg (by simpa using hfit) h1
 have hk' : min sLen dLen = k := hk
 rw [hn] at hl
 have hfc : (Builtin.firstCells ti.size k (.slice (some a) sLen sCap)).run P w = .ok cs.toArray w := by rw [Builtin.firstCells]; exact hl
 simp only [Nat.add_zero] at hst
 simp [Builtin.copy_, run_underlying hu, Builtin.lenOf, hz.size_run, hk', hfc, hst]
theorem Z2y {α : Type} (l : List α) (o : Nat) (cs : List α) (h : o + cs.length ≤ l.length) (q : Nat) : (l.take o ++ cs ++ l.drop (o + cs.length))[q]? = if q < o then l[q]? else if q < o + cs.length then cs[q - o]? else l[q]? := by
 have hl : (l.take o).length = o := by rw [List.length_take]; omega
 by_cases h1 : q < o
 ·rw [if_pos h1, List.append_assoc, List.getElem?_append_left (by omega), List.getElem?_take, if_pos h1]
 ·rw [if_neg h1]
  by_cases h2 : q < o + cs.length
  ·rw [if_pos h2, List.append_assoc, List.getElem?_append_right (by omega), hl, List.getElem?_append_left (by omega)]
  ·rw [if_neg h2, List.getElem?_append_right (by rw [List.length_append, hl]; omega), List.length_append, hl, List.getElem?_drop]
   congr 1; omega
def OvOK (P : Program) (ρ : Ren) : Prop := ∀ (args : Array Value) (w : World), (callFunc (ρ.f 29) args).run P w = ((Extern.SlicesOverlaps.overlaps #[ρ.t 24, ρ.t 24] #[ρ.t 4] args).run P w).andThen fun v w' => .ok (.value v) w'
def InsPost (w : World) (M : Nat → Prop) (e : TypeId) (sz n : Nat) (cells : List Value) (en : Ending) (w' : World) : Prop :=
 ∃ (g b c : Nat) (cur : Array Value), en = .returned (.slice (some ⟨g, b * sz, none⟩) n c) ∧ w'.heap[g]? = some (.cells cur e (0, 0)) ∧ cur.size = (b + c) * sz ∧ n ≤ c ∧ b + c ≤ maxLen ∧
  (∀ q v, cells[q]? = some v → cur[b * sz + q]? = some v) ∧ Keep M w w' ∧ (M g ∨ w.heap.size ≤ g)
theorem Keep.setRow {M : Nat → Prop} {w0 w : World} (h : Keep M w0 w) {g : Nat} (c : Array Value) (hg : M g ∨ w0.heap.size ≤ g) : Keep M w0 (w.setRow g c) :=
 ⟨h.os, h.tape, h.output, by simpa [World.setRow] using h.size, fun b hb hM => by
  rw [← h.block b hb hM]
  exact setRow_other w g b c (fun e => by rcases hg with hg | hg; exact hM (e ▸ hg); omega)⟩
set_option maxHeartbeats 4000000 in
set_option maxRecDepth 1000000 in
theorem Zhb {ti : TI} (L : SlL P ρ ti) {nm : String} (hf : P.funcs[ρ.f 22]? = some { Body2.n22 ρ with name := nm }) (hov0 : OvOK P ρ) (g b n c i vb vo vc : Nat) (cur vcur : Array Value) (vs : List Value) (w : World)
  (hg : w.heap[g]? = some (.cells cur (ρ.t 9) (0, 0))) (hone : ∀ q v, b * ti.size ≤ q → q < (b + n) * ti.size → cur[q]? = some v → v.oneCell' = true) (hi : i < n) (hroom : n + 1 ≤ c) (hbc : b + c ≤ maxLen) (hsz : cur.size = (b + c) * ti.size)
  (hvb : vb ≠ g) (hgv : w.heap[vb]? = some (.cells vcur (ρ.t 9) (0, 0))) (hvs : ∀ q v, vs[q]? = some v → vcur[vo + q]? = some v) (hvl : vs.length = ti.size) (h1v : ∀ v ∈ vs, v.oneCell' = true) :
  Calls P (ρ.f 22) #[.slice (some ⟨g, b * ti.size, none⟩) n c, .int .i64 i, .slice (some ⟨vb, vo, none⟩) 1 vc] w
   (InsPost w (fun x => x = g) (ρ.t 9) ti.size (n + 1) (((cur.toList.drop (b * ti.size)).take (i * ti.size)) ++ vs ++ ((cur.toList.drop ((b + i) * ti.size)).take ((n - i) * ti.size)))) := by
 have mixed := L.mixed; have t3 := L.t3; have a3 := L.a3; have z3 := L.z3; have v3 := L.v3; have t4 := L.t4; have a4 := L.a4; have z4 := L.z4; have v4 := L.v4; have t24 := L.t24; have a24 := L.a24; have z24 := L.z24; have v24 := L.v24
 have u3 := run_underlying L.t3; have u4 := run_underlying L.t4; have u24 := run_underlying L.t24
 have z9 : ∀ w, (Go.sizeOf (ρ.t 9)).run P w = .ok ti.size w := fun w => L.ti.size_run
 have hz1 : ¬ ((1 : Int) = 0) := by omega
 have hz2 : ¬ ((i : Int) = (n : Int)) := by omega
 have hb2 : ¬ (c = i + 1) := by omega
 have hb4 : ¬ (c = i) := by omega
 have hin : i ≤ n := by omega
 have hov : ∀ lb cb, (callFunc (ρ.f 29) #[.slice (some ⟨vb, vo, none⟩) 1 vc, .slice (some ⟨g, b * ti.size + (i + 1) * ti.size, none⟩) lb cb]).run P w = .ok (.value (.bool false)) w := fun lb cb => by
  rw [hov0,
   Lib.run_overlaps_apart w (ρ.t 24) (ρ.t 4) (ρ.t 9) L.t24 ti.size z9 ⟨vb, vo, none⟩ ⟨g, b * ti.size + (i + 1) * ti.size, none⟩ 1 vc lb cb hvb (ρ.t 9) (ρ.t 9) vcur.size cur.size (by simp [World.shape?, hgv]) (by simp [World.shape?, hg]) (by rw [hsz]; exact Nat.ne_of_gt (Nat.mul_pos (by omega) L.pos)) (by simp [World.frozen?, hgv]) (by simp [World.frozen?, hgv])]
  rfl
 have m0 : (b + i) * ti.size ≤ (b + n) * ti.size := Nat.mul_le_mul_right _ (by omega)
 have m1 : (b + i) * ti.size + (n - i) * ti.size = (b + n) * ti.size := by rw [← Nat.add_mul]; congr 1; omega
 have m2 : (b + (n + 1)) * ti.size ≤ (b + c) * ti.size := Nat.mul_le_mul_right _ (by omega)
 have m3 : (b + (i + 1)) * ti.size + (n - i) * ti.size = (b + (n + 1)) * ti.size := by rw [← Nat.add_mul]; congr 1; omega
 have m4 : (b + (i + 1)) * ti.size = (b + i) * ti.size + ti.size := by rw [← Nat.succ_mul]; congr 1
 have m5 : (b + (n + 1)) * ti.size = (b + n) * ti.size + ti.size := by rw [← Nat.succ_mul]; congr 1
 have m6 : b * ti.size + i * ti.size = (b + i) * ti.size := by rw [Nat.add_mul]
 obtain ⟨cs, hcs⟩ : ∃ cs : List Value, cs = (cur.toList.drop ((b + i) * ti.size)).take ((n - i) * ti.size) := ⟨_, rfl⟩
 have hcl : cs.length = (n - i) * ti.size := by rw [hcs, List.length_take, List.length_drop, Array.length_toList, hsz]; omega
 have hc1 : ∀ v ∈ cs, v.oneCell' = true := fun u hu => by
  rw [hcs] at hu
  obtain ⟨q, hq⟩ := List.getElem?_of_mem hu
  have hql := (List.getElem?_eq_some_iff.1 hq).1
  rw [← hcs, hcl] at hql
  exact hone _ u (by omega) (by omega) (Z1s hq)
 obtain ⟨cur1, hcur1⟩ : ∃ cur1 : Array Value, cur1 = (cur.toList.take ((b + (i + 1)) * ti.size) ++ cs ++ cur.toList.drop ((b + (i + 1)) * ti.size + cs.length)).toArray := ⟨_, rfl⟩
 have hgd : w.drew.heap[g]? = some (.cells cur (ρ.t 9) (0, 0)) := hg
 have hcp1 : ∀ ty dc sc, (Builtin.copy_ #[(ρ.t 24), (ρ.t 24)] ty #[.slice (some ⟨g, b * ti.size + (i + 1) * ti.size, none⟩) (n - i) dc, .slice (some ⟨g, b * ti.size + i * ti.size, none⟩) (n + 1 - i) sc]).run P w.drew = .ok (goInt ((n - i : Nat) : Int)) (w.drew.setRow g cur1) := fun ty dc sc => by
  have h := Z5e (P := P) (dT := ρ.t 24) (sT := ρ.t 24) (ty := ty) L.t24 L.ti w.drew g ((b + (i + 1)) * ti.size) (n - i) dc ⟨g, (b + i) * ti.size, none⟩ (n + 1 - i) sc cur cs hgd (n - i) (by simp only [Nat.min_def]; split <;> omega) hcl
   (fun q v hq => by
    rw [Addr.add_lit]
    rw [hcs] at hq
    show w.drew.cell? _ = _
    simp [World.cell?, hgd, Z1s hq]) (by rw [hcl, hsz]; omega) hc1
  rw [← Nat.add_mul, ← Nat.add_mul, h, hcur1]
 have hc1s : cur1.size = (b + c) * ti.size := by
  rw [hcur1]
  simp only [List.size_toArray, List.length_append, List.length_take, List.length_drop, Array.length_toList, hcl, hsz]
  omega
 have hg1 : (w.drew.setRow g cur1).heap[g]? = some (.cells cur1 (ρ.t 9) (0, 0)) := setRow_heap w.drew g cur cur1 (ρ.t 9) _ hgd
 obtain ⟨W1, hW1⟩ : ∃ W1, W1 = w.drew.setRow g cur1 := ⟨_, rfl⟩
 rw [← hW1] at hcp1 hg1
 have hgv1 : W1.heap[vb]? = some (.cells vcur (ρ.t 9) (0, 0)) := by rw [hW1, setRow_other w.drew g vb _ hvb]; exact hgv
 obtain ⟨cur2, hcur2⟩ : ∃ cur2 : Array Value, cur2 = (cur1.toList.take ((b + i) * ti.size) ++ vs ++ cur1.toList.drop ((b + i) * ti.size + vs.length)).toArray := ⟨_, rfl⟩
 have hcp2 : ∀ ty dc, (Builtin.copy_ #[(ρ.t 24), (ρ.t 24)] ty #[.slice (some ⟨g, b * ti.size + i * ti.size, none⟩) (n + 1 - i) dc, .slice (some ⟨vb, vo, none⟩) 1 vc]).run P W1 = .ok (goInt ((1 : Nat) : Int)) (W1.setRow g cur2) := fun ty dc => by
  have h := Z5e (P := P) (dT := ρ.t 24) (sT := ρ.t 24) (ty := ty) L.t24 L.ti W1 g ((b + i) * ti.size) (n + 1 - i) dc ⟨vb, vo, none⟩ 1 vc cur1 vs hg1 1 (by simp only [Nat.min_def]; split <;> omega) (by rw [hvl, Nat.one_mul])
   (fun q v hq => by
    rw [Addr.add_lit]
    show W1.cell? _ = _
    simp [World.cell?, hgv1, hvs q v hq]) (by rw [hvl, hc1s]; omega) h1v
  rw [m6, h, hcur2]
 have hw1 : IntKind.i64.wrap ((i : Int) + 1) = (i : Int) + 1 := by rw [IntKind.wrap_i64]; unfold maxLen at hbc; omega
 have hw2 : IntKind.i64.wrap ((n : Int) + 1) = (n : Int) + 1 := by rw [IntKind.wrap_i64]; unfold maxLen at hbc; omega
 have hb1 : (0 : Int) ≤ (i : Int) + 1 := by omega
 have hb3 : (i : Int) ≤ (n : Int) + 1 := by omega
 have htn : ((i : Int) + 1).toNat = i + 1 := by omega
 have htn2 : ((n : Int) + 1).toNat = n + 1 := by omega
 have hpost : InsPost w (fun x => x = g) (ρ.t 9) ti.size (n + 1) (((cur.toList.drop (b * ti.size)).take (i * ti.size)) ++ vs ++ ((cur.toList.drop ((b + i) * ti.size)).take ((n - i) * ti.size))) (.returned (.slice (some ⟨g, b * ti.size, none⟩) (n + 1) c)) (W1.setRow g cur2) := by
  have s1 := Z2y cur.toList ((b + (i + 1)) * ti.size) cs (by rw [hcl, Array.length_toList, hsz]; omega)
  have s2 := Z2y cur1.toList ((b + i) * ti.size) vs (by rw [hvl, Array.length_toList, hc1s]; omega)
  have e1 : cur1.toList = cur.toList.take ((b + (i + 1)) * ti.size) ++ cs ++ cur.toList.drop ((b + (i + 1)) * ti.size + cs.length) := by rw [hcur1]
  have e2 : cur2.toList = cur1.toList.take ((b + i) * ti.size) ++ vs ++ cur1.toList.drop ((b + i) * ti.size + vs.length) := by rw [hcur2]
  have hc2s : cur2.size = (b + c) * ti.size := by
   rw [hcur2]
   simp only [List.size_toArray, List.length_append, List.length_take, List.length_drop, Array.length_toList, hvl, hc1s]
   omega
  refine ⟨g, b, c, cur2, rfl, setRow_heap W1 g cur1 cur2 (ρ.t 9) _ hg1, hc2s, by omega, hbc, fun q v hq => ?_, ?_, .inl rfl⟩
  ·rw [← hcs] at hq
   have hX : ((cur.toList.drop (b * ti.size)).take (i * ti.size)).length = i * ti.size := by rw [List.length_take, List.length_drop, Array.length_toList, hsz]; omega
   rw [← Array.getElem?_toList, e2, s2]
   by_cases h1 : q < i * ti.size
   ·rw [if_pos (by omega)]
    rw [List.append_assoc, List.getElem?_append_left (by omega)] at hq
    rw [e1, s1, if_pos (by omega), Array.getElem?_toList]
    exact Z1s hq
   ·rw [if_neg (by omega)]
    by_cases h2 : q < i * ti.size + ti.size
    ·rw [if_pos (by omega)]
     rw [List.append_assoc, List.getElem?_append_right (by omega), hX, List.getElem?_append_left (by omega)] at hq
     rw [← hq]; congr 1; omega
    ·have hlt := (List.getElem?_eq_some_iff.1 hq).1
     simp only [List.length_append, hX, hvl, hcl] at hlt
     rw [if_neg (by omega), e1, s1, if_neg (by omega), if_pos (by omega)]
     rw [List.getElem?_append_right (by rw [List.length_append, hX]; omega), List.length_append, hX] at hq
     rw [← hq]; congr 1; omega
  ·rw [hW1]
   have k0 : Keep (fun x => x = g) w w.drew := Keep.drew (.refl _ _)
   exact (k0.setRow cur1 (.inl rfl)).setRow cur2 (.inl rfl)
 clear hcur1 hcur2 hcs hW1 hc1 hcl hc1s m0 m1 m2 m3 m4 m5 m6
 go_enter hf, Body2.n22_ntmps ρ
 go_wp2_with (simp only [hov])
 go_region_law_o (refine step_copy_runI rfl _ _ (ρ.t 24) (ρ.t 24) rfl _ _ (by simp [Act.eval, Act.put]) (by simp [Act.eval, Act.put]) (hcp1 _ _ _) ?_)
 go_wp2_with (at_builtin; refine wpList_copy_runI _ rfl _ _ (ρ.t 24) (ρ.t 24) rfl _ _ rfl rfl (hcp2 _ _) ?_)
 go_ret
 exact hpost
theorem Zg2 {ti : TI} {w : World} {vb vo vc : Nat} {vcur : Array Value} {e : TypeId} {vs : List Value} {q : Nat × Nat} (hgv : w.heap[vb]? = some (.cells vcur e q)) (hvs : ∀ q v, vs[q]? = some v → vcur[vo + q]? = some v) (hvl : vs.length = ti.size) (h1v : ∀ v ∈ vs, v.oneCell' = true) : Src P w ti.size 1 (.slice (some ⟨vb, vo, none⟩) 1 vc) vs :=
 Z5c (by rw [hvl, Nat.one_mul]) (fun j u hj => by
  rw [Addr.add_lit]
  simp [World.cell?, hgv, hvs j u hj]) h1v
set_option maxHeartbeats 4000000 in
set_option maxRecDepth 1000000 in
theorem Zbv {ti : TI} (L : SlL P ρ ti) {nm : String} (hf : P.funcs[ρ.f 22]? = some { Body2.n22 ρ with name := nm }) (g b n c vb vo vc : Nat) (cur vcur : Array Value) (vs : List Value) (w : World)
  (hg : w.heap[g]? = some (.cells cur (ρ.t 9) (0, 0))) (hroom : n + 1 ≤ c) (hbc : b + c ≤ maxLen) (hsz : cur.size = (b + c) * ti.size)
  (hgv : w.heap[vb]? = some (.cells vcur (ρ.t 9) (0, 0))) (hvs : ∀ q v, vs[q]? = some v → vcur[vo + q]? = some v) (hvl : vs.length = ti.size) (h1v : ∀ v ∈ vs, v.oneCell' = true) :
  Calls P (ρ.f 22) #[.slice (some ⟨g, b * ti.size, none⟩) n c, .int .i64 n, .slice (some ⟨vb, vo, none⟩) 1 vc] w
   (InsPost w (fun x => x = g) (ρ.t 9) ti.size (n + 1) (((cur.toList.drop (b * ti.size)).take (n * ti.size)) ++ vs)) := by
 have mixed := L.mixed; have t3 := L.t3; have a3 := L.a3; have z3 := L.z3; have v3 := L.v3; have t4 := L.t4; have a4 := L.a4; have z4 := L.z4; have v4 := L.v4; have t24 := L.t24; have a24 := L.a24; have z24 := L.z24; have v24 := L.v24
 have u3 := run_underlying L.t3; have u4 := run_underlying L.t4; have u24 := run_underlying L.t24
 have z9 : ∀ w, (Go.sizeOf (ρ.t 9)).run P w = .ok ti.size w := fun w => L.ti.size_run
 have hz1 : ¬ ((1 : Int) = 0) := by omega
 have m2 : (b + (n + 1)) * ti.size ≤ (b + c) * ti.size := Nat.mul_le_mul_right _ (by omega)
 have m5 : (b + (n + 1)) * ti.size = (b + n) * ti.size + ti.size := by rw [← Nat.succ_mul]; congr 1
 have m6 : b * ti.size + n * ti.size = (b + n) * ti.size := by rw [Nat.add_mul]
 obtain ⟨cur1, hcur1⟩ : ∃ cur1 : Array Value, cur1 = (cur.toList.take ((b + n) * ti.size) ++ vs ++ cur.toList.drop ((b + n) * ti.size + vs.length)).toArray := ⟨_, rfl⟩
 have hr1 : ∀ ty, (Builtin.append_ #[ρ.t 24, ρ.t 24] ty #[.slice (some ⟨g, b * ti.size, none⟩) n c, .slice (some ⟨vb, vo, none⟩) 1 vc]).run P w = .ok (.slice (some ⟨g, b * ti.size, none⟩) (n + 1) c) (w.setRow g cur1) := fun ty => by
  refine Z26 (P := P) L.t24 (.inl ⟨_, L.t24⟩) L.ti (Zg2 hgv hvs hvl h1v) hroom (fun ad had => ?_) (fun h => by cases h)
  cases had
  have hst := run_storeCells_at (P := P) g ((b + n) * ti.size) (ρ.t 9) vs 0 cur w hg (by rw [hvl, hsz]; omega) h1v
  rw [Nat.add_zero] at hst
  rw [Addr.add_lit, ← Nat.add_mul, hcur1]
  exact hst
 have hpost : InsPost w (fun x => x = g) (ρ.t 9) ti.size (n + 1) (((cur.toList.drop (b * ti.size)).take (n * ti.size)) ++ vs) (.returned (.slice (some ⟨g, b * ti.size, none⟩) (n + 1) c)) (w.setRow g cur1) := by
  have s1 := Z2y cur.toList ((b + n) * ti.size) vs (by rw [hvl, Array.length_toList, hsz]; omega)
  have e1 : cur1.toList = cur.toList.take ((b + n) * ti.size) ++ vs ++ cur.toList.drop ((b + n) * ti.size + vs.length) := by rw [hcur1]
  have hc1s : cur1.size = (b + c) * ti.size := by
   rw [hcur1]
   simp only [List.size_toArray, List.length_append, List.length_take, List.length_drop, Array.length_toList, hvl, hsz]
   omega
  refine ⟨g, b, c, cur1, rfl, setRow_heap w g cur cur1 (ρ.t 9) _ hg, hc1s, hroom, hbc, fun q v hq => ?_, ?_, .inl rfl⟩
  ·have hX : ((cur.toList.drop (b * ti.size)).take (n * ti.size)).length = n * ti.size := by rw [List.length_take, List.length_drop, Array.length_toList, hsz]; omega
   rw [← Array.getElem?_toList, e1, s1]
   by_cases h1 : q < n * ti.size
   ·rw [if_pos (by omega)]
    rw [List.getElem?_append_left (by omega)] at hq
    rw [Array.getElem?_toList]
    exact Z1s hq
   ·have hlt := (List.getElem?_eq_some_iff.1 hq).1
    simp only [List.length_append, hX, hvl] at hlt
    rw [if_neg (by omega), if_pos (by omega)]
    rw [List.getElem?_append_right (by omega), hX] at hq
    rw [← hq]; congr 1; omega
  ·have k0 : Keep (fun x => x = g) w w := .refl _ _
   exact k0.setRow cur1 (.inl rfl)
 clear hcur1 m2 m5 m6
 go_enter hf, Body2.n22_ntmps ρ
 go_wp2_with (at_builtin; refine Lib.wpList_append_run _ rfl _ _ _ _ rfl _ _ rfl rfl _ _ (hr1 _) ?_)
 go_ret
 exact hpost
set_option maxHeartbeats 4000000 in
set_option maxRecDepth 1000000 in
theorem Z6k {ti : TI} (L : SlL P ρ ti) {nm : String} (hf : P.funcs[ρ.f 22]? = some { Body2.n22 ρ with name := nm }) (A : Option Addr) (n c vb vo vc : Nat) (vcur : Array Value) (olds vs : List Value) (w : World)
  (hnil : A = none → n = 0) (hol : olds.length = n * ti.size) (holds : ∀ ad, A = some ad → ∀ j u, olds[j]? = some u → w.cell? (ad.add j) = some u) (hnc : n ≤ c) (hroom : c < n + 1) (hbig : (n + 1) * ti.bytes ≤ 140737488355328)
  (hgv : w.heap[vb]? = some (.cells vcur (ρ.t 9) (0, 0))) (hvs : ∀ q v, vs[q]? = some v → vcur[vo + q]? = some v) (hvl : vs.length = ti.size) (h1v : ∀ v ∈ vs, v.oneCell' = true) :
  Calls P (ρ.f 22) #[.slice A n c, .int .i64 n, .slice (some ⟨vb, vo, none⟩) 1 vc] w
   (InsPost w (fun x => False) (ρ.t 9) ti.size (n + 1) (olds ++ vs)) := by
 have mixed := L.mixed; have t3 := L.t3; have a3 := L.a3; have z3 := L.z3; have v3 := L.v3; have t4 := L.t4; have a4 := L.a4; have z4 := L.z4; have v4 := L.v4; have t24 := L.t24; have a24 := L.a24; have z24 := L.z24; have v24 := L.v24
 have u3 := run_underlying L.t3; have u4 := run_underlying L.t4; have u24 := run_underlying L.t24
 have z9 : ∀ w, (Go.sizeOf (ρ.t 9)).run P w = .ok ti.size w := fun w => L.ti.size_run
 have hz1 : ¬ ((1 : Int) = 0) := by omega
 obtain ⟨G, hG⟩ : ∃ G, G = grownCap w (n + 1) c (ρ.t 9) := ⟨_, rfl⟩
 obtain ⟨ROW, hROW⟩ : ∃ ROW : Array Value, ROW = olds.toArray ++ vs.toArray ++ Builtin.zeroCells ti.zero.cells (grownCap w (n + 1) c (ρ.t 9) - (n + 1)) := ⟨_, rfl⟩
 have hr1 : ∀ ty, (Builtin.append_ #[ρ.t 24, ρ.t 24] ty #[.slice A n c, .slice (some ⟨vb, vo, none⟩) 1 vc]).run P w = .ok (.slice (some ⟨w.heap.size, 0, none⟩) (n + 1) G) (w.drew.alloc (.cells ROW (ρ.t 9))) := fun ty => by
  rw [hG, hROW]
  refine Z4l (P := P) L.t24 (.inl ⟨_, L.t24⟩) L.ti L.bpos (Zg2 hgv hvs hvl h1v) hroom hbig (Z4p (w := w.drew) hol (fun ad h => by simpa using holds ad h) (fun h => ?_))
  have := hnil h
  subst this
  exact List.length_eq_zero_iff.1 (by rw [hol, Nat.zero_mul])
 have hge := grownCap_ge w (n + 1) c (ρ.t 9)
 have hbig' : n + 1 ≤ 140737488355328 := Nat.le_trans (Nat.le_mul_of_pos_right _ L.bpos) hbig
 have hcm := grownCap_le_maxLen w (n + 1) c (ρ.t 9) (by simp only [maxLen]; omega)
 have hrs : ROW.size = G * ti.size := by
  rw [hROW, hG]
  simp only [Array.size_append, List.size_toArray, size_zeroCells, L.ti.cells, hol, hvl]
  rw [Nat.sub_mul, Nat.add_mul]
  have := Nat.mul_le_mul_right ti.size hge
  rw [Nat.add_mul] at this
  omega
 have hpost : InsPost w (fun x => False) (ρ.t 9) ti.size (n + 1) (olds ++ vs) (.returned (.slice (some ⟨w.heap.size, 0, none⟩) (n + 1) G)) (w.drew.alloc (.cells ROW (ρ.t 9))) := by
  refine ⟨w.heap.size, 0, G, ROW, by rw [Nat.zero_mul], heap_alloc_new w.drew _, by rw [hrs, Nat.zero_add], by rw [hG]; exact hge, by rw [hG, Nat.zero_add]; exact hcm, fun q v hq => ?_, ⟨rfl, rfl, rfl, by simp, fun b hb _ => Below.heap_alloc w.drew _ b hb⟩, .inr (Nat.le_refl _)⟩
  rw [Nat.zero_mul, Nat.zero_add, hROW]
  have : (olds.toArray ++ vs.toArray ++ Builtin.zeroCells ti.zero.cells (grownCap w (n + 1) c (ρ.t 9) - (n + 1))).toList = (olds ++ vs) ++ (Builtin.zeroCells ti.zero.cells (grownCap w (n + 1) c (ρ.t 9) - (n + 1))).toList := by simp
  rw [← Array.getElem?_toList, this, List.getElem?_append_left (List.getElem?_eq_some_iff.1 hq).1]
  exact hq
 clear hG hROW hrs hge hcm
 go_enter hf, Body2.n22_ntmps ρ
 cases A with
 | none =>
  have h0 := hnil rfl
  subst h0
  have hc0 : c = 0 := by omega
  subst hc0
  go_wp2_with (at_builtin; refine Lib.wpList_append_run _ rfl _ _ _ _ rfl _ _ rfl rfl _ _ (hr1 _) ?_)
  go_ret
  exact hpost
 | some a =>
  obtain ⟨ab, ao, asp⟩ := a
  go_wp2_with (at_builtin; refine Lib.wpList_append_run _ rfl _ _ _ _ rfl _ _ rfl rfl _ _ (hr1 _) ?_)
  all_goals (go_ret; exact hpost)
set_option maxHeartbeats 4000000 in
set_option maxRecDepth 1000000 in
theorem Zjk {ti : TI} (L : SlL P ρ ti) {nm : String} (hf : P.funcs[ρ.f 22]? = some { Body2.n22 ρ with name := nm }) (g b n c i vb vo vc : Nat) (cur vcur : Array Value) (vs : List Value) (w : World)
  (hg : w.heap[g]? = some (.cells cur (ρ.t 9) (0, 0))) (hone : ∀ q v, b * ti.size ≤ q → q < (b + n) * ti.size → cur[q]? = some v → v.oneCell' = true) (hi : i < n) (hnc : n ≤ c) (hroom : c < n + 1) (hbc : b + c ≤ maxLen) (hsz : cur.size = (b + c) * ti.size) (hbig : (n + 1) * ti.bytes ≤ 140737488355328)
  (hgv : w.heap[vb]? = some (.cells vcur (ρ.t 9) (0, 0))) (hvs : ∀ q v, vs[q]? = some v → vcur[vo + q]? = some v) (hvl : vs.length = ti.size) (h1v : ∀ v ∈ vs, v.oneCell' = true) :
  Calls P (ρ.f 22) #[.slice (some ⟨g, b * ti.size, none⟩) n c, .int .i64 i, .slice (some ⟨vb, vo, none⟩) 1 vc] w
   (InsPost w (fun x => False) (ρ.t 9) ti.size (n + 1) (((cur.toList.drop (b * ti.size)).take (i * ti.size)) ++ vs ++ ((cur.toList.drop ((b + i) * ti.size)).take ((n - i) * ti.size)))) := by
 have mixed := L.mixed; have t3 := L.t3; have a3 := L.a3; have z3 := L.z3; have v3 := L.v3; have t4 := L.t4; have a4 := L.a4; have z4 := L.z4; have v4 := L.v4; have t24 := L.t24; have a24 := L.a24; have z24 := L.z24; have v24 := L.v24
 have u3 := run_underlying L.t3; have u4 := run_underlying L.t4; have u24 := run_underlying L.t24
 have z9 : ∀ w, (Go.sizeOf (ρ.t 9)).run P w = .ok ti.size w := fun w => L.ti.size_run
 obtain ⟨i0, hi0, hz0, hzs, hzb⟩ := info_parts L.ti.info
 have hz1 : ¬ ((1 : Int) = 0) := by omega
 have hz2 : ¬ ((i : Int) = (n : Int)) := by omega
 have hz3 : (c : Int) < (n : Int) + 1 := by omega
 have hgw : g < w.heap.size := Z1n hg
 have hvw : vb < w.heap.size := Z1n hgv
 have hkk : (n : Int) + 1 - (i : Int) = ((n + 1 - i : Nat) : Int) := by omega
 have hik : i + (n + 1 - i) = n + 1 := by omega
 have m0 : (b + i) * ti.size ≤ (b + n) * ti.size := Nat.mul_le_mul_right _ (by omega)
 have m1 : (b + i) * ti.size + (n - i) * ti.size = (b + n) * ti.size := by rw [← Nat.add_mul]; congr 1; omega
 have m2 : (b + n) * ti.size ≤ (b + c) * ti.size := Nat.mul_le_mul_right _ (by omega)
 have m6 : b * ti.size + i * ti.size = (b + i) * ti.size := by rw [Nat.add_mul]
 have m7 : (i + 1) * ti.size = i * ti.size + ti.size := Nat.succ_mul _ _
 have m8 : (i + 1) * ti.size + (n - i) * ti.size = (n + 1) * ti.size := by rw [← Nat.add_mul]; congr 1; omega
 obtain ⟨pre, hpre⟩ : ∃ pre : List Value, pre = (cur.toList.drop (b * ti.size)).take (i * ti.size) := ⟨_, rfl⟩
 have hpl : pre.length = i * ti.size := by rw [hpre, List.length_take, List.length_drop, Array.length_toList, hsz]; omega
 obtain ⟨cs, hcs⟩ : ∃ cs : List Value, cs = (cur.toList.drop ((b + i) * ti.size)).take ((n - i) * ti.size) := ⟨_, rfl⟩
 have hcl : cs.length = (n - i) * ti.size := by rw [hcs, List.length_take, List.length_drop, Array.length_toList, hsz]; omega
 have hc1 : ∀ v ∈ cs, v.oneCell' = true := fun u hu => by
  rw [hcs] at hu
  obtain ⟨q, hq⟩ := List.getElem?_of_mem hu
  have hql := (List.getElem?_eq_some_iff.1 hq).1
  rw [← hcs, hcl] at hql
  exact hone _ u (by omega) (by omega) (Z1s hq)
 have hbig' : n + 1 ≤ 140737488355328 := Nat.le_trans (Nat.le_mul_of_pos_right _ L.bpos) hbig
 have hold : (Builtin.firstCells i0.size i (.slice (some ⟨g, b * ti.size, none⟩) i c)).run P w.drew = .ok pre.toArray w.drew := by
  rw [hzs]
  exact run_firstCells_some w.drew ti.size i ⟨g, b * ti.size, none⟩ i c pre hpl (fun j v hj => by
   rw [Addr.add_lit]
   rw [hpre] at hj
   show w.cell? _ = _
   simp [World.cell?, hg, Z1s hj])
 obtain ⟨G, hG⟩ : ∃ G, G = grownCap w (n + 1) c (ρ.t 9) := ⟨_, rfl⟩
 obtain ⟨ROW, hROW⟩ : ∃ ROW : Array Value, ROW = pre.toArray ++ Builtin.zeroCells ti.zero.cells (n + 1 - i) ++ Builtin.zeroCells ti.zero.cells (G - (n + 1)) := ⟨_, rfl⟩
 have hGn : n + 1 ≤ G := by rw [hG]; exact grownCap_ge w _ _ _
 have hGm : G ≤ maxLen := by rw [hG]; exact grownCap_le_maxLen w (n + 1) c (ρ.t 9) (by simp only [maxLen]; omega)
 have hrs : ROW.size = G * ti.size := by
  rw [hROW]
  simp only [Array.size_append, List.size_toArray, size_zeroCells, L.ti.cells, hpl]
  rw [← Nat.add_mul, ← Nat.add_mul]
  congr 1; omega
 obtain ⟨W1, hW1⟩ : ∃ W1, W1 = w.drew.alloc (.cells ROW (ρ.t 9)) := ⟨_, rfl⟩
 have hrz : ∀ ty, (Builtin.append_ #[(ρ.t 24), (ρ.t 3)] ty #[.slice (some ⟨g, b * ti.size, none⟩) i c, .int .i64 ((n : Int) + 1 - (i : Int))]).run P w = .ok (.slice (some ⟨w.heap.size, 0, none⟩) (n + 1) G) W1 := fun ty => by
  have h := Lib.run_append_grow_zeros w (ρ.t 24) (ρ.t 3) ty (ρ.t 9) i0 _ .i64 .i64 L.t24 L.t3 hi0 hz0 (some ⟨g, b * ti.size, none⟩) i c pre hold (n + 1 - i) (by omega) (by rw [hzs]; exact L.pos) (by omega) (by omega)
   (by rw [hzb]; have : (n + 1 - i) * ti.bytes ≤ (n + 1) * ti.bytes := Nat.mul_le_mul_right _ (by omega); omega) (by rw [hzb, hik]; exact growslice_fits hroom hbig)
  rw [hik] at h
  rw [hkk, h, hW1, hROW, hG]
 have hN : W1.heap[w.heap.size]? = some (.cells ROW (ρ.t 9) (0, 0)) := by rw [hW1]; exact heap_alloc_new w.drew _
 have hO : ∀ x, x < w.heap.size → W1.heap[x]? = w.heap[x]? := fun x hx => by rw [hW1]; exact Below.heap_alloc w.drew _ x hx
 obtain ⟨N, hNe⟩ : ∃ N, N = w.heap.size := ⟨_, rfl⟩
 rw [← hNe] at hrz hN hO hgw hvw
 obtain ⟨cur1, hcur1⟩ : ∃ cur1 : Array Value, cur1 = (ROW.toList.take (i * ti.size) ++ vs ++ ROW.toList.drop (i * ti.size + vs.length)).toArray := ⟨_, rfl⟩
 have m9 : (n + 1) * ti.size ≤ G * ti.size := Nat.mul_le_mul_right _ hGn
 have hcpA : ∀ ty dc, (Builtin.copy_ #[(ρ.t 24), (ρ.t 24)] ty #[.slice (some ⟨N, i * ti.size, none⟩) (n + 1 - i) dc, .slice (some ⟨vb, vo, none⟩) 1 vc]).run P W1 = .ok (goInt ((1 : Nat) : Int)) (W1.setRow N cur1) := fun ty dc => by
  have h := Z5e (P := P) (dT := ρ.t 24) (sT := ρ.t 24) (ty := ty) L.t24 L.ti W1 N (i * ti.size) (n + 1 - i) dc ⟨vb, vo, none⟩ 1 vc ROW vs hN 1 (by simp only [Nat.min_def]; split <;> omega) (by rw [hvl, Nat.one_mul])
   (fun q v hq => by
    rw [Addr.add_lit]
    show W1.cell? _ = _
    simp [World.cell?, (hO vb hvw).trans hgv, hvs q v hq]) (by rw [hvl, hrs]; omega) h1v
  rw [h, hcur1]
 have hc1s : cur1.size = G * ti.size := by
  rw [hcur1]
  simp only [List.size_toArray, List.length_append, List.length_take, List.length_drop, Array.length_toList, hvl, hrs]
  omega
 obtain ⟨W2, hW2⟩ : ∃ W2, W2 = W1.setRow N cur1 := ⟨_, rfl⟩
 rw [← hW2] at hcpA
 have hN2 : W2.heap[N]? = some (.cells cur1 (ρ.t 9) (0, 0)) := by rw [hW2]; exact setRow_heap W1 N ROW cur1 (ρ.t 9) _ hN
 have hO2 : ∀ x, x < N → W2.heap[x]? = w.heap[x]? := fun x hx => by rw [hW2, setRow_other W1 N x _ (by omega)]; exact hO x hx
 obtain ⟨cur2, hcur2⟩ : ∃ cur2 : Array Value, cur2 = (cur1.toList.take ((i + 1) * ti.size) ++ cs ++ cur1.toList.drop ((i + 1) * ti.size + cs.length)).toArray := ⟨_, rfl⟩
 have hcpB : ∀ ty dc sc, (Builtin.copy_ #[(ρ.t 24), (ρ.t 24)] ty #[.slice (some ⟨N, (i + 1) * ti.size, none⟩) (n - i) dc, .slice (some ⟨g, b * ti.size + i * ti.size, none⟩) (n - i) sc]).run P W2.drew = .ok (goInt ((n - i : Nat) : Int)) (W2.drew.setRow N cur2) := fun ty dc sc => by
  have h := Z5e (P := P) (dT := ρ.t 24) (sT := ρ.t 24) (ty := ty) L.t24 L.ti W2.drew N ((i + 1) * ti.size) (n - i) dc ⟨g, (b + i) * ti.size, none⟩ (n - i) sc cur1 cs hN2 (n - i) (by simp only [Nat.min_def]; split <;> omega) hcl
   (fun q v hq => by
    rw [Addr.add_lit]
    rw [hcs] at hq
    show W2.cell? _ = _
    simp [World.cell?, (hO2 g hgw).trans hg, Z1s hq]) (by rw [hcl, hc1s]; omega) hc1
  rw [← Nat.add_mul, h, hcur2]
 have hGi : ¬ (G = i) := by omega
 have hGim : ¬ (G = i + 1) := by omega
 have hci : ¬ (c = i) := by omega
 have hw1 : IntKind.i64.wrap ((i : Int) + 1) = (i : Int) + 1 := by rw [IntKind.wrap_i64]; omega
 have hw2 : IntKind.i64.wrap ((n : Int) + 1) = (n : Int) + 1 := by rw [IntKind.wrap_i64]; omega
 have hw3 : IntKind.i64.wrap ((n : Int) + 1 - (i : Int)) = (n : Int) + 1 - (i : Int) := by rw [IntKind.wrap_i64]; omega
 have hb1 : (0 : Int) ≤ (i : Int) + 1 := by omega
 have hin : i ≤ n := by omega
 have hin1 : i ≤ n + 1 := by omega
 have hiG : i ≤ G := by omega
 have htn : ((i : Int) + 1).toNat = i + 1 := by omega
 have hb3 : (i : Int) ≤ (n : Int) := by omega
 have hpost : InsPost w (fun x => False) (ρ.t 9) ti.size (n + 1) (pre ++ vs ++ cs) (.returned (.slice (some ⟨N, 0, none⟩) (n + 1) G)) (W2.drew.setRow N cur2) := by
  have s1 := Z2y ROW.toList (i * ti.size) vs (by rw [hvl, Array.length_toList, hrs]; omega)
  have s2 := Z2y cur1.toList ((i + 1) * ti.size) cs (by rw [hcl, Array.length_toList, hc1s]; omega)
  have e1 : cur1.toList = ROW.toList.take (i * ti.size) ++ vs ++ ROW.toList.drop (i * ti.size + vs.length) := by rw [hcur1]
  have e2 : cur2.toList = cur1.toList.take ((i + 1) * ti.size) ++ cs ++ cur1.toList.drop ((i + 1) * ti.size + cs.length) := by rw [hcur2]
  have hc2s : cur2.size = G * ti.size := by
   rw [hcur2]
   simp only [List.size_toArray, List.length_append, List.length_take, List.length_drop, Array.length_toList, hcl, hc1s]
   omega
  refine ⟨N, 0, G, cur2, by rw [Nat.zero_mul], setRow_heap W2.drew N cur1 cur2 (ρ.t 9) _ hN2, by rw [hc2s, Nat.zero_add], hGn, by rw [Nat.zero_add]; exact hGm, fun q v hq => ?_, ?_, .inr (Nat.le_of_eq hNe.symm)⟩
  ·rw [Nat.zero_mul, Nat.zero_add, ← Array.getElem?_toList, e2, s2]
   by_cases h1 : q < i * ti.size
   ·rw [if_pos (by omega), e1, s1, if_pos h1]
    rw [List.append_assoc, List.getElem?_append_left (by omega)] at hq
    have : ROW.toList = pre ++ ((Builtin.zeroCells ti.zero.cells (n + 1 - i)).toList ++ (Builtin.zeroCells ti.zero.cells (G - (n + 1))).toList) := by rw [hROW]; simp
    rw [this, List.getElem?_append_left (by omega)]
    exact hq
   ·by_cases h2 : q < i * ti.size + ti.size
    ·rw [if_pos (by omega), e1, s1, if_neg h1, if_pos (by omega)]
     rw [List.append_assoc, List.getElem?_append_right (by omega), hpl, List.getElem?_append_left (by omega)] at hq
     exact hq
    ·have hlt := (List.getElem?_eq_some_iff.1 hq).1
     simp only [List.length_append, hpl, hvl, hcl] at hlt
     rw [if_neg (by omega), if_pos (by omega)]
     rw [List.getElem?_append_right (by rw [List.length_append, hpl]; omega), List.length_append, hpl] at hq
     rw [← hq]; congr 1; omega
  ·have k0 : Keep (fun _ => False) w W1 := by rw [hW1]; exact ⟨rfl, rfl, rfl, by simp, fun b hb _ => Below.heap_alloc w.drew _ b hb⟩
   have k1 : Keep (fun _ => False) w W2 := by rw [hW2]; exact k0.setRow cur1 (.inr (Nat.le_of_eq hNe.symm))
   exact (Keep.drew k1).setRow cur2 (.inr (Nat.le_of_eq hNe.symm))
 rw [← hpre, ← hcs]
 clear hcur1 hcur2 hcs hW1 hW2 hc1 hcl hc1s m0 m1 m2 m6 m7 m8 m9 hpre hpl hold hG hROW hrs hN hN2 hO hO2 hkk hik hNe
 go_enter hf, Body2.n22_ntmps ρ
 go_wp2_with (first
  | (at_builtin; refine Lib.wpList_append_run _ rfl _ _ _ _ rfl _ _ rfl rfl _ _ (hrz _) ?_)
  | (at_builtin; refine wpList_copy_runI _ rfl _ _ (ρ.t 24) (ρ.t 24) rfl _ _ rfl rfl (hcpA _ _) ?_))
 go_region_law_o (refine step_copy_runI rfl _ _ (ρ.t 24) (ρ.t 24) rfl _ _ (by simp [Act.eval, Act.put]) (by simp [Act.eval, Act.put]) (hcpB _ _ _) ?_)
 go_wp2
 go_ret
 exact hpost
def HdrAt (w : World) (M : Nat → Prop) (e : TypeId) (sz : Nat) (A : Option Addr) (n c : Nat) (us : List Value) : Prop :=
 us.length = n * sz ∧ (∀ u ∈ us, u.oneCell' = true) ∧ ((n = 0 ∧ c = 0) ∨ ∃ (g b : Nat) (cur : Array Value), A = some ⟨g, b * sz, none⟩ ∧ M g ∧ w.heap[g]? = some (.cells cur e (0, 0)) ∧ n ≤ c ∧ b + c ≤ maxLen ∧ cur.size = (b + c) * sz ∧ us = (cur.toList.drop (b * sz)).take (n * sz))
def Zij (P : Program) (f : Nat) (e : TypeId) (ti : TI) : Prop := ∀ (w : World) (M : Nat → Prop) (A : Option Addr) (n c : Nat) (us : List Value) (i vb vo vc : Nat) (vcur : Array Value) (vs : List Value), HdrAt w M e ti.size A n c us → i ≤ n → (n + 1) * ti.bytes ≤ 140737488355328 →
 w.heap[vb]? = some (.cells vcur e (0, 0)) → (∀ q v, vs[q]? = some v → vcur[vo + q]? = some v) → vs.length = ti.size → (∀ v ∈ vs, v.oneCell' = true) → ¬ M vb →
 Calls P f #[.slice A n c, .int .i64 i, .slice (some ⟨vb, vo, none⟩) 1 vc] w (InsPost w M e ti.size (n + 1) (us.take (i * ti.size) ++ vs ++ us.drop (i * ti.size)))
def Zik (P : Program) (f : Nat) (e : TypeId) (ti : TI) : Prop := ∀ (w : World) (M : Nat → Prop) (A : Option Addr) (n c : Nat) (us : List Value) (i j : Nat), HdrAt w M e ti.size A n c us → i < n → j = i + 1 →
 Calls P f #[.slice A n c, .int .i64 i, .int .i64 j] w (InsPost w M e ti.size (n - 1) (us.take (i * ti.size) ++ us.drop (j * ti.size)))
theorem Keep.mono {M M' : Nat → Prop} {w w' : World} (h : Keep M w w') (hM : ∀ g, M g → M' g) : Keep M' w w' := ⟨h.os, h.tape, h.output, h.size, fun b hb hn => h.block b hb (fun h => hn (hM _ h))⟩
theorem InsPost.mono {w w' : World} {M M' : Nat → Prop} {e sz n : Nat} {cells : List Value} {en : Ending} (h : InsPost w M e sz n cells en w') (hM : ∀ g, M g → M' g) : InsPost w M' e sz n cells en w' := by
 obtain ⟨g, b, c, cur, h1, h2, h3, h4, h5, h6, h7, h8⟩ := h
 exact ⟨g, b, c, cur, h1, h2, h3, h4, h5, h6, h7.mono hM, h8.imp (hM _) id⟩
theorem Z3e {cur : Array Value} {b i n sz : Nat} (hi : i ≤ n) (hs : (b + n) * sz ≤ cur.size) :
  ((cur.toList.drop (b * sz)).take (n * sz)).take (i * sz) = (cur.toList.drop (b * sz)).take (i * sz) ∧ ((cur.toList.drop (b * sz)).take (n * sz)).drop (i * sz) = (cur.toList.drop ((b + i) * sz)).take ((n - i) * sz) := by
 have m : i * sz ≤ n * sz := Nat.mul_le_mul_right _ hi
 refine ⟨by rw [List.take_take, Nat.min_eq_left m], ?_⟩
 rw [List.drop_take, List.drop_drop, Nat.sub_mul, Nat.add_mul]
theorem Zk9 {ti : TI} (L : SlL P ρ ti) {nm : String} (hf : P.funcs[ρ.f 22]? = some { Body2.n22 ρ with name := nm }) (hov : OvOK P ρ) : Zij P (ρ.f 22) (ρ.t 9) ti := by
 intro w M A n c us i vb vo vc vcur vs hh hi hbig hgv hvs hvl h1v hvM
 obtain ⟨hul, h1, hh⟩ := hh
 rcases hh with ⟨rfl, rfl⟩ | ⟨g, b, cur, rfl, hM, hg, hnc, hbc, hsz, hus⟩
 ·obtain rfl : i = 0 := by omega
  have hu0 : us = [] := List.length_eq_zero_iff.1 (by rw [hul, Nat.zero_mul])
  subst hu0
  have := Z6k L hf A 0 0 vb vo vc vcur [] vs w (fun _ => rfl) (by simp) (fun ad _ j u hj => by simp at hj) (Nat.le_refl _) (by omega) hbig hgv hvs hvl h1v
  refine this.mono fun e w' h => ?_
  simpa using h.mono (M' := M) (fun _ h => h.elim)
 ·have m2 : (b + n) * ti.size ≤ (b + c) * ti.size := Nat.mul_le_mul_right _ (by omega)
  have m6 : b * ti.size + n * ti.size = (b + n) * ti.size := by rw [Nat.add_mul]
  have hone : ∀ q v, b * ti.size ≤ q → q < (b + n) * ti.size → cur[q]? = some v → v.oneCell' = true := fun q v h2 h3 hq => by
   refine h1 v (List.mem_of_getElem? (i := q - b * ti.size) ?_)
   rw [hus, List.getElem?_take, if_pos (by omega), List.getElem?_drop, Array.getElem?_toList, show b * ti.size + (q - b * ti.size) = q by omega]
   exact hq
  obtain ⟨t1, t2⟩ := Z3e (cur := cur) (b := b) (sz := ti.size) hi (by rw [hsz]; exact m2)
  rw [hus]
  by_cases hin : i = n
  ·subst hin
   rw [t1, t2, Nat.sub_self, Nat.zero_mul, List.take_zero, List.append_nil]
   by_cases hroom : i + 1 ≤ c
   ·exact (Zbv L hf g b i c vb vo vc cur vcur vs w hg hroom hbc hsz hgv hvs hvl h1v).mono fun e w' h => h.mono (fun x hx => hx ▸ hM)
   ·refine (Z6k L hf (some ⟨g, b * ti.size, none⟩) i c vb vo vc vcur us vs w (fun h => by cases h) hul (fun ad had j u hj => ?_) hnc (by omega) hbig hgv hvs hvl h1v).mono fun e w' h => ?_
    ·cases had
     rw [hus] at hj
     rw [Addr.add_lit]
     simp [World.cell?, hg, Z1s hj]
    ·rw [← hus]; exact h.mono (fun _ h => h.elim)
  ·rw [t1, t2]
   by_cases hroom : n + 1 ≤ c
   ·exact (Zhb L hf hov g b n c i vb vo vc cur vcur vs w hg hone (by omega) hroom hbc hsz (fun e => hvM (e ▸ hM)) hgv hvs hvl h1v).mono fun e w' h => h.mono (fun x hx => hx ▸ hM)
   ·exact (Zjk L hf g b n c i vb vo vc cur vcur vs w hg hone (by omega) hnc (by omega) hbc hsz hbig hgv hvs hvl h1v).mono fun e w' h => h.mono (fun _ h => h.elim)
theorem del_ok {ti : TI} (L : SlL P ρ ti) {nm : String} (hf : P.funcs[ρ.f 24]? = some { Body2.n24 ρ with name := nm }) : Zik P (ρ.f 24) (ρ.t 9) ti := by
 intro w M A n c us i j hh hi hj
 obtain ⟨hul, h1, hh⟩ := hh
 rcases hh with ⟨rfl, rfl⟩ | ⟨g, b, cur, rfl, hM, hg, hnc, hbc, hsz, hus⟩
 ·omega
 have m2 : (b + n) * ti.size ≤ (b + c) * ti.size := Nat.mul_le_mul_right _ (by omega)
 have m6 : b * ti.size + n * ti.size = (b + n) * ti.size := by rw [Nat.add_mul]
 have m7 : b * ti.size + i * ti.size = (b + i) * ti.size := by rw [Nat.add_mul]
 have m8 : (b + i) * ti.size + ti.size = (b + j) * ti.size := by rw [← Nat.succ_mul]; congr 1; omega
 have m9 : (b + j) * ti.size + (n - j) * ti.size = (b + n) * ti.size := by rw [← Nat.add_mul]; congr 1; omega
 have m10 : (b + i) * ti.size ≤ (b + n) * ti.size := Nat.mul_le_mul_right _ (by omega)
 have hone : ∀ q v, b * ti.size ≤ q → q < (b + n) * ti.size → cur[q]? = some v → v.oneCell' = true := fun q v h2 h3 hq => by
  refine h1 v (List.mem_of_getElem? (i := q - b * ti.size) ?_)
  rw [hus, List.getElem?_take, if_pos (by omega), List.getElem?_drop, Array.getElem?_toList, show b * ti.size + (q - b * ti.size) = q by omega]
  exact hq
 refine (del_run L hf g b n c i j cur w hg hone hj hi hnc hbc hsz).mono fun e w' h => ?_
 obtain ⟨rfl, zs, hzs, rfl⟩ := h
 have e1 : i + (n - j) = n - 1 := by omega
 have hcs : (Z4f cur b n i ti.size zs).size = (b + c) * ti.size := by
  unfold Z4f
  have e3 : b + i + 1 = b + j := by omega
  have e4 : n - i - 1 = n - j := by omega
  rw [e3, e4]
  simp only [List.size_toArray, List.length_append, List.length_take, List.length_drop, Array.length_toList, hsz, hzs]
  omega
 refine ⟨g, b, c, _, by rw [e1], setRow_heap w.drew g cur _ (ρ.t 9) _ hg, hcs, by omega, hbc, fun q v hq => ?_, ?_, .inl hM⟩
 ·obtain ⟨t1, _⟩ := Z3e (cur := cur) (b := b) (i := i) (n := n) (sz := ti.size) (by omega) (by rw [hsz]; exact m2)
  obtain ⟨_, t2⟩ := Z3e (cur := cur) (b := b) (i := j) (n := n) (sz := ti.size) (by omega) (by rw [hsz]; exact m2)
  rw [hus, t1, t2] at hq
  have hX : ((cur.toList.drop (b * ti.size)).take (i * ti.size)).length = i * ti.size := by rw [List.length_take, List.length_drop, Array.length_toList, hsz]; omega
  unfold Z4f
  have e3 : b + i + 1 = b + j := by omega
  have e4 : n - i - 1 = n - j := by omega
  have l0 : (cur.toList.take ((b + i) * ti.size)).length = (b + i) * ti.size := by rw [List.length_take, Array.length_toList, hsz]; omega
  rw [e3, e4, List.getElem?_toArray, List.append_assoc, List.append_assoc]
  by_cases h1 : q < i * ti.size
  ·rw [List.getElem?_append_left (by omega)] at hq
   rw [List.getElem?_append_left (by omega), List.getElem?_take, if_pos (by omega), Array.getElem?_toList]
   exact Z1s hq
  ·rw [List.getElem?_append_right (by omega), hX] at hq
   rw [List.getElem?_append_right (by omega), l0, List.getElem?_append_left (by have := (List.getElem?_eq_some_iff.1 hq).1; omega)]
   rw [← hq]; congr 1; omega
 ·have k0 : Keep M w w.drew := Keep.drew (.refl _ _)
  exact k0.setRow _ (.inl hM)
end
end Go.Proofs.YtnehieeplbgaiacDoor.Eng
set_option linter.unusedVariables false
set_option linter.unusedSimpArgs false
namespace Go.Proofs.YtnehieeplbgaiacDoor.Eng
open Go Go.RowKit
section
variable {P : Program} {T : Tab} {X : Ctx} {σ σ' : Nat → Option Blk} {F F' : Nat → Prop} {s s' : St} {a : Act} {w w' : World} {o : Oper} {c : Prop} {x : AV} {v : Value} {K : St → Prop}
def RootQ (q : Blk) (w : World) (e sz : Nat) (es : List (List AV)) (Q : Nat → Nat → AV → Value → Prop) : Prop :=
 (q = .nil ∧ es = []) ∨ ∃ (g b c : Nat) (cur : Array Value), q = .at_ g b c es.length ∧ es.length ≤ c ∧ b + c ≤ maxLen ∧ w.heap[g]? = some (.cells cur e (0, 0)) ∧
   cur.size = (b + c) * sz ∧ (∀ cs ∈ es, cs.length = sz) ∧
   ∀ (i : Nat) (cs : List AV) (j : Nat) (x : AV), es[i]? = some cs → cs[j]? = some x → ∃ u, cur[(b + i) * sz + j]? = some u ∧ u.oneCell' = true ∧ Q i j x u
theorem RowRep.root {q : Blk} {e sz : Nat} {es : List (List AV)} : RowRep q F w e sz es ↔ RootQ q w e sz es (fun _ _ x u => RepF F w x u) := Iff.rfl
def CellsQ (sz : Nat) (es : List (List AV)) (us : List Value) (Q : Nat → Nat → AV → Value → Prop) : Prop :=
 us.length = es.length * sz ∧ (∀ cs ∈ es, cs.length = sz) ∧ ∀ (i : Nat) (cs : List AV) (j : Nat) (x : AV), es[i]? = some cs → cs[j]? = some x → ∃ u, us[i * sz + j]? = some u ∧ u.oneCell' = true ∧ Q i j x u
theorem Zbw {i n j sz : Nat} (hi : i < n) (hj : j < sz) : i * sz + j < n * sz := by
 have : (i + 1) * sz ≤ n * sz := Nat.mul_le_mul_right _ hi
 rw [Nat.succ_mul] at this
 omega
theorem CellsQ.one {sz : Nat} {es : List (List AV)} {us : List Value} {Q : Nat → Nat → AV → Value → Prop} (h : CellsQ sz es us Q) : ∀ u ∈ us, u.oneCell' = true := fun u hu => by
 obtain ⟨h1, h2, h3⟩ := h
 obtain ⟨q, hq⟩ := List.getElem?_of_mem hu
 have hlt := (List.getElem?_eq_some_iff.1 hq).1
 rw [h1] at hlt
 obtain ⟨i, j, hi, hj, rfl⟩ := Zq hlt
 have hj2 : j < es[i].length := by rw [h2 _ (List.getElem_mem hi)]; exact hj
 obtain ⟨u', h4, h5, _⟩ := h3 i es[i] j es[i][j] (List.getElem?_eq_getElem hi) (List.getElem?_eq_getElem hj2)
 rw [hq] at h4
 cases h4
 exact h5
theorem RootQ.hdr {q : Blk} {e sz : Nat} {es : List (List AV)} {Q : Nat → Nat → AV → Value → Prop} (h : RootQ q w e sz es Q) (hh : HdrRep q F w sz es.length v) :
  ∃ A c us, v = .slice A es.length c ∧ HdrAt w q.has e sz A es.length c us ∧ CellsQ sz es us Q := by
 rcases h with ⟨rfl, rfl⟩ | ⟨g, b, c, cur, rfl, h2, h3, h4, h5, h6, h7⟩
 ·rcases RepV.ownv hh with ⟨_, _, h2, h3⟩ | ⟨g', b', c', n', h1, _⟩
  ·exact ⟨none, 0, [], by rw [h3]; rfl, ⟨by simp, by simp, .inl ⟨rfl, rfl⟩⟩, by simp, by simp, by simp⟩
  ·cases h1
 ·have hfit : (b + es.length) * sz ≤ cur.size := by rw [h5]; exact Nat.mul_le_mul_right _ (by omega)
  rw [Nat.add_mul] at hfit
  have hC : CellsQ sz es ((cur.toList.drop (b * sz)).take (es.length * sz)) Q := by
   refine ⟨by rw [List.length_take, List.length_drop, Array.length_toList (xs := cur)]; omega, h6, fun i cs j x hi hj => ?_⟩
   obtain ⟨u, k1, k2, k3⟩ := h7 i cs j x hi hj
   have hi' : i < es.length := (List.getElem?_eq_some_iff.1 hi).1
   have hj' : j < sz := by have := (List.getElem?_eq_some_iff.1 hj).1; rw [h6 cs (List.mem_of_getElem? hi)] at this; exact this
   refine ⟨u, ?_, k2, k3⟩
   rw [List.getElem?_take, if_pos (Zbw hi' hj'), List.getElem?_drop, Array.getElem?_toList, ← Nat.add_assoc, ← Nat.add_mul]
   exact k1
  rcases RepV.ownv hh with ⟨h1, _⟩ | ⟨g', b', c', n', h1, _, _, hv | ⟨hl, ho, hn, A, hv⟩⟩
  ·cases h1
  ·cases h1
   exact ⟨_, _, _, by simpa using hv, ⟨hC.1, hC.one, .inr ⟨g, b, cur, rfl, rfl, h4, h2, h3, h5, rfl⟩⟩, hC⟩
  ·cases h1
   exact ⟨A, 0, _, by rw [hv, hl], ⟨hC.1, hC.one, .inl ⟨hl, rfl⟩⟩, hC⟩
theorem Z78 {M : Nat → Prop} {e sz n : Nat} {cells : List Value} {en : Ending} {es : List (List AV)} {Q : Nat → Nat → AV → Value → Prop} (h : InsPost w M e sz n cells en w') (hn : n = es.length) (hC : CellsQ sz es cells Q) (hM : ∀ g, M g → g < w.heap.size) :
  ∃ k v, en = .returned v ∧ v.oneCell' = true ∧ RootQ k w' e sz es Q ∧ HdrRep k F w' sz es.length v ∧ Keep M w w' ∧ ∀ g, k.has g → g < w'.heap.size ∧ (M g ∨ w.heap.size ≤ g) := by
 obtain ⟨g, b, c, cur, rfl, h2, h3, h4, h5, h6, h7, h8⟩ := h
 subst hn
 refine ⟨.at_ g b c es.length, _, rfl, rfl, .inr ⟨g, b, c, cur, rfl, h4, h5, h2, h3, hC.2.1, fun i cs j x hi hj => ?_⟩, ?_, h7, fun g' hg' => ?_⟩
 ·obtain ⟨u, k1, k2, k3⟩ := hC.2.2 i cs j x hi hj
  refine ⟨u, ?_, k2, k3⟩
  rw [Nat.add_mul, Nat.add_assoc]
  exact h6 _ _ k1
 ·have := RepV.own (σ := fun _ => some (Blk.at_ g b c es.length)) (F := F) (w := w') 0 sz 0 es.length g b c es.length rfl (by omega) h4
  unfold HdrRep
  simpa using this
 ·have e1 : g' = g := hg'
  subst e1
  exact ⟨Z1n h2, h8⟩
theorem CellsQ.ins {sz : Nat} {es : List (List AV)} {us vs : List Value} {Q Q' : Nat → Nat → AV → Value → Prop} (h : CellsQ sz es us Q) {cs : List AV} {i : Nat} (hi : i ≤ es.length) (hcl : cs.length = sz) (hvl : vs.length = sz)
  (hlo : ∀ t j x u, t < i → t < es.length → j < sz → Q t j x u → Q' t j x u) (hhi : ∀ t j x u, i ≤ t → t < es.length → j < sz → Q t j x u → Q' (t + 1) j x u) (hnew : ∀ j x, cs[j]? = some x → ∃ u, vs[j]? = some u ∧ u.oneCell' = true ∧ Q' i j x u) :
  CellsQ sz (es.take i ++ cs :: es.drop i) (us.take (i * sz) ++ vs ++ us.drop (i * sz)) Q' := by
 obtain ⟨h1, h2, h3⟩ := h
 have hm : i * sz ≤ es.length * sz := Nat.mul_le_mul_right _ hi
 have hX : (us.take (i * sz)).length = i * sz := by rw [List.length_take]; omega
 have hY : (us.drop (i * sz)).length = (es.length - i) * sz := by rw [List.length_drop, h1, Nat.sub_mul]
 have hE : (es.take i).length = i := by rw [List.length_take]; omega
 have hjl : ∀ (t : Nat) (c : List AV) (j : Nat) (x : AV), es[t]? = some c → c[j]? = some x → j < sz := fun t c j x ht hj => by
  have := (List.getElem?_eq_some_iff.1 hj).1
  rw [h2 c (List.mem_of_getElem? ht)] at this; exact this
 refine ⟨?_, fun c hc => ?_, fun t c j x ht hj => ?_⟩
 ·simp only [List.length_append, hX, hvl, hY, hE, List.length_cons, List.length_drop]
  rw [Nat.add_mul, Nat.succ_mul]; omega
 ·rcases List.mem_append.1 hc with hc | hc
  ·exact h2 c (List.mem_of_mem_take hc)
  ·rcases List.mem_cons.1 hc with rfl | hc
   ·exact hcl
   ·exact h2 c (List.mem_of_mem_drop hc)
 ·rcases Nat.lt_trichotomy t i with h4 | h4 | h4
  ·rw [List.getElem?_append_left (by omega), List.getElem?_take, if_pos h4] at ht
   have hjs := hjl t c j x ht hj
   obtain ⟨u, k1, k2, k3⟩ := h3 t c j x ht hj
   refine ⟨u, ?_, k2, hlo t j x u h4 (by omega) hjs k3⟩
   rw [List.append_assoc, List.getElem?_append_left (by rw [hX]; exact Zbw h4 hjs), List.getElem?_take, if_pos (Zbw h4 hjs)]
   exact k1
  ·subst h4
   rw [List.getElem?_append_right (by omega), hE, Nat.sub_self, List.getElem?_cons_zero] at ht
   cases ht
   obtain ⟨u, k1, k2, k3⟩ := hnew j x hj
   refine ⟨u, ?_, k2, k3⟩
   have hjs : j < vs.length := (List.getElem?_eq_some_iff.1 k1).1
   rw [List.append_assoc, List.getElem?_append_right (by omega), hX, Nat.add_sub_cancel_left, List.getElem?_append_left hjs]
   exact k1
  ·obtain ⟨d, rfl⟩ : ∃ d, t = d + 1 := ⟨t - 1, by omega⟩
   rw [List.getElem?_append_right (by omega), hE, show d + 1 - i = (d - i) + 1 by omega, List.getElem?_cons_succ, List.getElem?_drop, show i + (d - i) = d by omega] at ht
   have hjs := hjl d c j x ht hj
   obtain ⟨u, k1, k2, k3⟩ := h3 d c j x ht hj
   refine ⟨u, ?_, k2, hhi d j x u (by omega) ((List.getElem?_eq_some_iff.1 ht).1) hjs k3⟩
   have hm2 : i * sz ≤ d * sz := Nat.mul_le_mul_right _ (by omega)
   rw [Nat.succ_mul, List.getElem?_append_right (by rw [List.length_append, hX, hvl]; omega), List.length_append, hX, hvl, List.getElem?_drop, show i * sz + (d * sz + sz + j - (i * sz + sz)) = d * sz + j by omega]
   exact k1
theorem CellsQ.del {sz : Nat} {es : List (List AV)} {us : List Value} {Q Q' : Nat → Nat → AV → Value → Prop} (h : CellsQ sz es us Q) {i : Nat} (hi : i < es.length)
  (hlo : ∀ t j x u, t < i → j < sz → Q t j x u → Q' t j x u) (hhi : ∀ t j x u, i ≤ t → t + 1 < es.length → j < sz → Q (t + 1) j x u → Q' t j x u) :
  CellsQ sz (es.take i ++ es.drop (i + 1)) (us.take (i * sz) ++ us.drop ((i + 1) * sz)) Q' := by
 obtain ⟨h1, h2, h3⟩ := h
 have hm : (i + 1) * sz ≤ es.length * sz := Nat.mul_le_mul_right _ hi
 have hm1 : (i + 1) * sz = i * sz + sz := Nat.succ_mul _ _
 have hX : (us.take (i * sz)).length = i * sz := by rw [List.length_take]; omega
 have hE : (es.take i).length = i := by rw [List.length_take]; omega
 have hjl : ∀ (t : Nat) (c : List AV) (j : Nat) (x : AV), es[t]? = some c → c[j]? = some x → j < sz := fun t c j x ht hj => by
  have := (List.getElem?_eq_some_iff.1 hj).1
  rw [h2 c (List.mem_of_getElem? ht)] at this; exact this
 refine ⟨?_, fun c hc => ?_, fun t c j x ht hj => ?_⟩
 ·simp only [List.length_append, hX, hE, List.length_drop, h1]
  rw [show i + (es.length - (i + 1)) = es.length - 1 by omega, Nat.sub_mul]; omega
 ·rcases List.mem_append.1 hc with hc | hc
  ·exact h2 c (List.mem_of_mem_take hc)
  ·exact h2 c (List.mem_of_mem_drop hc)
 ·rcases Nat.lt_or_ge t i with h4 | h4
  ·rw [List.getElem?_append_left (by omega), List.getElem?_take, if_pos h4] at ht
   have hjs := hjl t c j x ht hj
   obtain ⟨u, k1, k2, k3⟩ := h3 t c j x ht hj
   refine ⟨u, ?_, k2, hlo t j x u h4 hjs k3⟩
   rw [List.getElem?_append_left (by rw [hX]; exact Zbw h4 hjs), List.getElem?_take, if_pos (Zbw h4 hjs)]
   exact k1
  ·rw [List.getElem?_append_right (by omega), hE, List.getElem?_drop, show i + 1 + (t - i) = t + 1 by omega] at ht
   have hjs := hjl (t + 1) c j x ht hj
   obtain ⟨u, k1, k2, k3⟩ := h3 (t + 1) c j x ht hj
   refine ⟨u, ?_, k2, hhi t j x u h4 ((List.getElem?_eq_some_iff.1 ht).1) hjs k3⟩
   have hm2 : i * sz ≤ t * sz := Nat.mul_le_mul_right _ (by omega)
   rw [List.getElem?_append_right (by omega), hX, List.getElem?_drop, show (i + 1) * sz + (t * sz + j - i * sz) = (t + 1) * sz + j by rw [hm1, Nat.succ_mul]; omega]
   exact k1
theorem opWP.calls {fop : Operand} {ar : Array Operand} {ts : Array Nat} (ho : o.op = .call { callee := .value fop, args := ar, argTypes := ts }) {f : Nat} (hf : s.ev fop = .fn f []) (hE : Enters P f) (hd : dOK X.n o.dst)
  (h : ∀ σ F a w, RepAt X σ F s a w → Calls P f (ar.map a.eval) w fun e w' => ∃ v σ' F' s' x, e = .returned v ∧ RepAt X σ' F' s' a w' ∧ RepV σ' F' w' x v ∧ K (St.put s' o.dst x)) : opWP P X o K s := by
 rintro Qc next a w hn ⟨σ, F, hr⟩
 obtain ⟨us, hfv, hul, hur⟩ := RepV.fnv (hf ▸ hr.ev fop)
 have hu0 : us = [] := List.length_eq_zero_iff.1 (by simpa using hul.symm)
 subst hu0
 have hrun : (execOp a.eval o).run P w = .ok (.enter f (ar.map a.eval)) w := by
  simp [execOp, ho, resolve, hfv, Deferred.ofValue, invoke, hE (ar.map a.eval) w]
 unfold Oper.wp
 rw [hrun]
 show Calls P f (ar.map a.eval) w _
 refine (h σ F a w hr).mono ?_
 rintro e w' ⟨v, σ', F', s', x, rfl, h1, h2, h3⟩
 exact hn _ _ _ h3 ⟨_, _, h1.put hd h2⟩
theorem of_hdr {id sz n : Nat} {q : Blk} (h : HdrRep q F w sz n v) (hs : σ id = some q) : RepV σ F w (.own id sz 0 n) v := by
 cases h with
 | f _ _ h => cases h
 | own0 _ _ h => injection h with h; subst h; exact .own0 _ _ hs
 | own _ _ _ _ g b c m h hn hc => injection h with h; subst h; exact .own _ _ _ _ g b c m hs hn hc
 | ownz _ _ _ g b c m a h hn hc => injection h with h; subst h; exact .ownz _ _ _ g b c m a hs hn hc
theorem RootQ.imp {q : Blk} {e sz : Nat} {es : List (List AV)} {Q Q' : Nat → Nat → AV → Value → Prop} (h : RootQ q w e sz es Q) (hQ : ∀ i j x u, Q i j x u → Q' i j x u) : RootQ q w e sz es Q' := by
 rcases h with h | ⟨g, b, c, cur, h1, h2, h3, h4, h5, h6, h7⟩
 ·exact .inl h
 ·exact .inr ⟨g, b, c, cur, h1, h2, h3, h4, h5, h6, fun i cs j x hi hj => by
   obtain ⟨u, k1, k2, k3⟩ := h7 i cs j x hi hj
   exact ⟨u, k1, k2, hQ _ _ _ _ k3⟩⟩
theorem src1 (hr : RepAt X σ F s a w) {z : Operand} {id2 e sz : Nat} {cs : List AV} (hz : s.ev z = .own id2 sz 0 1) (hq2 : s.heap[id2]? = some (.row e sz [cs])) :
  ∃ (vb vo vc : Nat) (vcur : Array Value) (vs : List Value), a.eval z = .slice (some ⟨vb, vo, none⟩) 1 vc ∧ hasB σ id2 vb ∧ w.heap[vb]? = some (.cells vcur e (0, 0)) ∧ (∀ (q : Nat) (v : Value), vs[q]? = some v → vcur[vo + q]? = some v) ∧ vs.length = sz ∧ cs.length = sz ∧ (∀ v ∈ vs, v.oneCell' = true) ∧
   ∀ (j : Nat) (x : AV), cs[j]? = some x → ∃ u, vs[j]? = some u ∧ u.oneCell' = true ∧ RepF F w x u := by
 obtain ⟨q, g1, g2⟩ := Z4u (hr.heap.obj id2 _ hq2)
 have g3 := Z7m (hz ▸ hr.ev z) g1
 obtain ⟨g, b, c, rfl⟩ := g2.pos (by simp)
 obtain ⟨_, h2, h3, cur, h4, h5, h6, h7⟩ := g2.at
 have hv := g3.at (by omega)
 obtain ⟨A, c', us, hv2, _, hC⟩ := (RowRep.root.1 g2).hdr (v := a.eval z) g3
 refine ⟨g, b * sz, c, cur, (cur.toList.drop (b * sz)).take sz, hv, ⟨_, g1, rfl⟩, h4, fun q v hq => Z1s hq, ?_, h6 cs (by simp), fun u hu => ?_, fun j x hj => ?_⟩
 ·have : (b + 1) * sz ≤ cur.size := by rw [h5]; exact Nat.mul_le_mul_right _ (by simpa using h2)
  rw [Nat.succ_mul] at this
  rw [List.length_take, List.length_drop, Array.length_toList (xs := cur)]; omega
 ·obtain ⟨q, hq⟩ := List.getElem?_of_mem hu
  have hlt : q < sz := by have := (List.getElem?_eq_some_iff.1 hq).1; rw [List.length_take] at this; omega
  have hq' := Z1s hq
  have hj2 : q < cs.length := by rw [h6 cs (by simp)]; exact hlt
  obtain ⟨u', k1, k2, _⟩ := h7 0 cs q cs[q] rfl (List.getElem?_eq_getElem hj2)
  rw [Nat.add_zero] at k1
  rw [hq'] at k1; cases k1; exact k2
 ·obtain ⟨u, k1, k2, k3⟩ := h7 0 cs j x rfl hj
  rw [Nat.add_zero] at k1
  have hjs : j < sz := by have := (List.getElem?_eq_some_iff.1 hj).1; rw [h6 cs (by simp)] at this; exact this
  refine ⟨u, ?_, k2, k3⟩
  rw [List.getElem?_take, if_pos hjs, List.getElem?_drop, Array.getElem?_toList]
  exact k1
theorem Zgi {fop y iop z : Operand} {ts : Array Nat} (ho : o.op = .call { callee := .value fop, args := #[y, iop, z], argTypes := ts }) {f : Nat} (hf : s.ev fop = .fn f []) (hE : Enters P f) {e : Nat} {ti : TI} (hI : Zij P f e ti) {id id2 i : Nat} {es : List (List AV)} {cs : List AV}
  (hy : s.ev y = .own id ti.size 0 es.length) (hi : s.ev iop = .v (.int .i64 (i : Int))) (hil : i ≤ es.length) (hz : s.ev z = .own id2 ti.size 0 1) (hq : s.heap[id]? = some (.row e ti.size es)) (hq2 : s.heap[id2]? = some (.row e ti.size [cs])) (hne : id ≠ id2) (hm : X.m ≤ id)
  (hbig : (es.length + 1) * ti.bytes ≤ 140737488355328) (hd : dOK X.n o.dst) (hK : K (St.put ⟨Zo (Z5 id) s.env, (s.heap.map (AObj.sub (Z5 id))).set id (.row e ti.size (es.take i ++ cs :: es.drop i))⟩ o.dst (.own id ti.size 0 (es.length + 1)))) : opWP P X o K s := by
 refine opWP.calls ho hf hE hd (fun σ F a w hr => ?_)
 have hid : id < s.heap.length := (List.getElem?_eq_some_iff.1 hq).1
 obtain ⟨q, g1, g2⟩ := Z4u (hr.heap.obj id _ hq)
 have g3 := Z7m (hy ▸ hr.ev y) g1
 obtain ⟨A, c, us, hv, hH, hC⟩ := (RowRep.root.1 g2).hdr g3
 obtain ⟨vb, vo, vc, vcur, vs, hvz, hvb, hgv, hvs, hvl, hcl, h1v, hvr⟩ := src1 hr hz hq2
 have hiv := (hi ▸ hr.ev iop).val
 have hown : ∀ g, q.has g → hasB σ id g := fun g hg => ⟨_, g1, hg⟩
 have hC' := hC.ins (Q' := fun _ _ x u => RepF F w x u) hil hcl hvl (fun _ _ _ _ _ _ _ h => h) (fun _ _ _ _ _ _ _ h => h) hvr
 have hel : (es.take i ++ cs :: es.drop i).length = es.length + 1 := by simp; omega
 have hcall := hI w q.has A es.length c us i vb vo vc vcur vs hH hil hbig hgv hvs hvl h1v (fun h => hne (hr.heap.inj _ _ _ (hown vb h) hvb))
 rw [← hv, ← hiv, ← hvz] at hcall
 rw [show (#[y, iop, z].map a.eval) = #[a.eval y, a.eval iop, a.eval z] from by simp]
 refine hcall.mono fun en w' hp => ?_
 obtain ⟨k, v, rfl, hv1, k1, k2, k3, k4⟩ := Z78 (F := F) hp hel.symm hC' (fun g hg => (hr.heap.lt _ _ (hown g hg)).1)
 have hF : ∀ b, F b → w'.heap[b]? = w.heap[b]? := fun b hb => k3.block b (hr.heap.flt b hb) (fun h => (hr.heap.lt _ _ (hown b h)).2 hb)
 have hRF : ∀ x y, RepF F w x y → RepF F w' x y := fun x y h => h.mono (fun _ h => h) hF
 have k5 : RowRep k F w' e ti.size (es.take i ++ cs :: es.drop i) := RowRep.root.2 (k1.imp (fun _ _ x u h => hRF x u h))
 have hr2 := hr.change (w' := w') (F' := F) (k := some k) (f := Z5 id) (ob := .row e ti.size (es.take i ++ cs :: es.drop i)) hid k3.os k3.tape k3.output k3.size (fun g hg hn => k3.block g hg (fun h => hn (hown g h))) (fun _ h => h) (fun _ h => .inl h)
  (fun q' g hq' hg => by
   cases hq'
   obtain ⟨h1, h2⟩ := k4 g hg
   exact ⟨h1, fun hFg => by
    rcases h2 with h2 | h2
    ·exact (hr.heap.lt _ _ (hown g h2)).2 hFg
    ·have := hr.heap.flt g hFg; omega, h2.imp (hown g) (fun h => h)⟩) (Z3m hRF) (Z3l hRF) Z1y (fun h => absurd h (by omega)) (by
   rcases k5 with ⟨h1, h2⟩ | ⟨g, b, c, cur, h1, h2⟩
   ·exact .inl ⟨by rw [Z0, h1], h2⟩
   ·exact .inr ⟨g, b, c, cur, by rw [Z0, h1], h2⟩)
 exact ⟨v, _, F, _, _, rfl, hr2, of_hdr (hel ▸ k2) (Z0 _ _ _), hK⟩
def linV (isz sz : Nat) (k : Blk) (v : Value) (I : Nat → Value) : List Nat → Value
 | [0] => v
 | [1, j] => I j
 | [2, q, j] => Zj1 k sz q j
 | [3, j, l, h] => Z1u isz (I j) l h
 | _ => undef
def piB (p : Nat → Option Nat) (B : Nat → Blk) (t : Nat) : Blk := match p t with
 | some q => B q
 | none => .nil
def piI (p : Nat → Option Nat) (V : List Nat → Value) (t : Nat) : Value := match p t with
 | some q => V [1, q]
 | none => .slice none 0 0
def Z4n (p : Nat → Option Nat) (F : Nat → Prop) (w : World) (ei sz isz c : Nat) (hole : Option Nat) (B : Nat → Blk) (V : List Nat → Value) (t j : Nat) (x : AV) (u : Value) : Prop := match p t with
 | some q => Z6d F w ei sz isz c hole B V q j x u
 | none => (j + 1 = sz ∧ x = .ro isz [] ∧ u = .slice none 0 0) ∨ (j + 1 ≠ sz ∧ RepF F w x u)
theorem LinRep.perm {e ei sz isz : Nat} {hole : Option Nat} {es es' : List (List AV)} {R k : Blk} {B : Nat → Blk} {V : List Nat → Value} (h4 : LinRep F w e ei sz isz es.length hole es R B V) {p : Nat → Option Nat} (hp : ∀ t t' q, p t = some q → p t' = some q → t = t')
  (hroot : RootQ k w' e sz es' (Z4n p F w ei sz isz es.length hole B V)) (hk : HdrRep k F w' sz es'.length v) (hin : ∀ t q, t < es'.length → p t = some q → q < es.length ∧ hole ≠ some q) (hout : ∀ t q, es'.length ≤ t → p t = some q → es.length ≤ q)
  (hkR : ∀ g, k.has g → R.has g ∨ w.heap.size ≤ g) (hlt : ∀ j g, (B j).has g → g < w.heap.size) (hB : ∀ j g, (B j).has g → w'.heap[g]? = w.heap[g]?) (hRF : ∀ x y, RepF F w x y → RepF F w' x y) :
  LinRep F w' e ei sz isz es'.length none es' k (piB p B) (linV isz sz k v (piI p V)) := by
 have hpB : ∀ t g, (piB p B t).has g → ∃ q, p t = some q ∧ (B q).has g := fun t g hg => by
  unfold piB at hg
  split at hg
  ·rename_i q h; exact ⟨q, h, hg⟩
  ·exact hg.elim
 refine ⟨?_, hk, fun g b cap n hR t j => Zdv k sz g b cap n hR t j, fun t l h => rfl, fun t ht => (by cases ht), Nat.le_refl _, h4.hsz, fun t ht => ?_, fun t g hg hb => ?_, fun t t' g h h' => ?_⟩
 ·rcases hroot with ⟨h5, h6⟩ | ⟨g, b, cap, cur, h5, h6, h7, h8, h9, h10, h11⟩
  ·exact .inl ⟨h5, h6⟩
  ·refine .inr ⟨g, b, cap, cur, h5, h6, h7, h8, h9, h10, fun t cs j x ht hj => ?_⟩
   obtain ⟨u, k1, k2, k3⟩ := h11 t cs j x ht hj
   have htl : t < es'.length := (List.getElem?_eq_some_iff.1 ht).1
   refine ⟨u, k1, k2, ?_⟩
   unfold Z4n at k3
   cases hpt : p t with
   | none =>
    rw [hpt] at k3
    rcases k3 with ⟨e1, rfl, rfl⟩ | ⟨e1, e2⟩
    ·refine .inr (.inl ⟨e1, htl, by simp, ?_, [], rfl, ?_, ?_⟩)
     ·show _ = piI p V t
      rw [piI, hpt]
     ·rw [piB, hpt]; exact .inl ⟨rfl, rfl⟩
     ·rw [piB, hpt]; exact .own0 0 isz rfl
    ·exact .inr (.inr ⟨fun h => absurd h e1, hRF _ _ e2⟩)
   | some q =>
    rw [hpt] at k3
    obtain ⟨hq, hqh⟩ := hin t q htl hpt
    rcases k3 with ⟨_, e1⟩ | ⟨e1, e2, e3, e4, row, e5, e6, e7⟩ | ⟨e1, e2⟩
    ·exact absurd e1 hqh
    ·refine .inr (.inl ⟨e1, htl, by simp, ?_, row, e5, ?_, ?_⟩)
     ·show _ = piI p V t
      rw [piI, hpt]; exact e4
     ·rw [piB, hpt]; exact e6.mono hRF (fun g hg => hB q g hg)
     ·rw [piB, hpt]; exact e7.mono
    ·exact .inr (.inr ⟨fun h => absurd (e1 h).1 (by omega), hRF _ _ e2⟩)
 ·rcases ht with ht | ht
  ·have e1 : linV isz sz k v (piI p V) [1, t] = piI p V t := rfl
   rw [e1, piB, piI]
   cases hpt : p t with
   | none => exact ⟨rfl, rfl⟩
   | some q => exact h4.out q (.inl (hout t q ht hpt))
  ·cases ht
 ·obtain ⟨q, hq, hb⟩ := hpB t g hb
  rcases hkR g hg with h | h
  ·exact h4.apart q g h hb
  ·have := hlt q g hb; omega
 ·obtain ⟨q, hq, hb⟩ := hpB t g h
  obtain ⟨q', hq', hb'⟩ := hpB t' g h'
  have := h4.inj _ _ _ hb hb'
  subst this
  exact hp t t' q hq hq'
theorem Ze1 (hr : RepAt X σ F s a w) {id e ei sz isz : Nat} {hole : Option Nat} {es es' : List (List AV)} (hid : id < s.heap.length) {R k : Blk} {B : Nat → Blk} {V : List Nat → Value} (h1 : σ id = some (.ext (Z1g R B) V)) (h4 : LinRep F w e ei sz isz es.length hole es R B V) {p : Nat → Option Nat} (hp : ∀ t t' q, p t = some q → p t' = some q → t = t')
  (hroot : RootQ k w' e sz es' (Z4n p F w ei sz isz es.length hole B V)) (hk : HdrRep k F w' sz es'.length v) (hv : v.oneCell' = true) (hin : ∀ t q, t < es'.length → p t = some q → q < es.length ∧ hole ≠ some q) (hout : ∀ t q, es'.length ≤ t → p t = some q → es.length ≤ q)
  (hK : Keep R.has w w') (hkR : ∀ g, k.has g → g < w'.heap.size ∧ (R.has g ∨ w.heap.size ≤ g)) (hm : X.m ≤ id) :
  ∃ σ', RepAt X σ' F ⟨Zo (Z5 id) s.env, (s.heap.map (AObj.sub (Z5 id))).set id (.lin e ei sz isz none none es')⟩ a w' ∧ RepV σ' F w' (.nm id [0]) v := by
 have hown : ∀ g, Z1g R B g → hasB σ id g := fun g hg => ⟨_, h1, hg⟩
 have hF : ∀ b, F b → w'.heap[b]? = w.heap[b]? := fun b hb => hK.block b (hr.heap.flt b hb) (fun h => (hr.heap.lt _ _ (hown b (.inl h))).2 hb)
 have hRF : ∀ x y, RepF F w x y → RepF F w' x y := fun x y h => h.mono (fun _ h => h) hF
 have hL := h4.perm hp hroot hk hin hout (fun g hg => (hkR g hg).2) (fun j g hg => (hr.heap.lt _ _ (hown g (.inr ⟨j, hg⟩))).1) (fun j g hg => hK.block g (hr.heap.lt _ _ (hown g (.inr ⟨j, hg⟩))).1 (fun h => h4.apart j g h hg)) hRF
 have hr2 := hr.change (w' := w') (F' := F) (k := some (.ext (Z1g k (piB p B)) (linV isz sz k v (piI p V)))) (f := Z5 id) (ob := .lin e ei sz isz none none es') hid hK.os hK.tape hK.output hK.size (fun g hg hn => hK.block g hg (fun h => hn (hown g (.inl h)))) (fun _ h => h) (fun _ h => .inl h)
  (fun q' g hq' hg => by
   cases hq'
   rcases hg with hg | ⟨t, hg⟩
   ·obtain ⟨h5, h6⟩ := hkR g hg
    refine ⟨h5, fun hFg => ?_, h6.imp (fun h => hown g (.inl h)) (fun h => h)⟩
    rcases h6 with h6 | h6
    ·exact (hr.heap.lt _ _ (hown g (.inl h6))).2 hFg
    ·have := hr.heap.flt g hFg; omega
   ·unfold piB at hg
    split at hg
    ·rename_i q _
     have h5 := hr.heap.lt _ _ (hown g (.inr ⟨q, hg⟩))
     exact ⟨Nat.lt_of_lt_of_le h5.1 hK.size, h5.2, .inl (hown g (.inr ⟨q, hg⟩))⟩
    ·exact hg.elim) (Z3m hRF) (Z3l hRF) Z1y (fun h => absurd h (by omega)) ⟨k, _, _, Z0 _ _ _, hL⟩
 exact ⟨_, hr2, .nm id [0] _ _ (Z0 _ _ _) hv⟩
theorem Zgj {fop y iop z : Operand} {ts : Array Nat} (ho : o.op = .call { callee := .value fop, args := #[y, iop, z], argTypes := ts }) {f : Nat} (hf : s.ev fop = .fn f []) (hE : Enters P f) {e ei isz : Nat} {ti : TI} (hI : Zij P f e ti) {id id2 i : Nat} {es : List (List AV)} {cs : List AV}
  (hy : s.ev y = .nm id [0]) (hi : s.ev iop = .v (.int .i64 (i : Int))) (hil : i ≤ es.length) (hz : s.ev z = .own id2 ti.size 0 1) (hq : s.heap[id]? = some (.lin e ei ti.size isz none none es)) (hq2 : s.heap[id2]? = some (.row e ti.size [cs]))
  (hlast : cs[ti.size - 1]? = some (.v (.slice none 0 0))) (hm : X.m ≤ id)
  (hbig : (es.length + 1) * ti.bytes ≤ 140737488355328) (hd : dOK X.n o.dst) (hK : K (St.put ⟨Zo (Z5 id) s.env, (s.heap.map (AObj.sub (Z5 id))).set id (.lin e ei ti.size isz none none (es.take i ++ Z16 cs (.ro isz []) :: es.drop i))⟩ o.dst (.nm id [0]))) : opWP P X o K s := by
 refine opWP.calls ho hf hE hd (fun σ F a w hr => ?_)
 have hid : id < s.heap.length := (List.getElem?_eq_some_iff.1 hq).1
 have hne : id ≠ id2 := fun e => by subst e; rw [hq] at hq2; cases hq2
 obtain ⟨R, B, V, h1, h2, h3, h4⟩ := Z4o hr hy hq
 have h4 : LinRep F w e ei ti.size isz es.length none es R B V := h4
 have hsz := h4.hsz
 have hroot : RootQ R w e ti.size es (Z6d F w ei ti.size isz es.length none B V) := h4.root
 obtain ⟨A, c, us, hv, hH, hC⟩ := hroot.hdr (v := a.eval y) (h2 ▸ h4.rhdr)
 obtain ⟨vb, vo, vc, vcur, vs, hvz, hvb, hgv, hvs, hvl, hcl, h1v, hvr⟩ := src1 hr hz hq2
 have hiv := (hi ▸ hr.ev iop).val
 have hown : ∀ g, Z1g R B g → hasB σ id g := fun g hg => ⟨_, h1, hg⟩
 have hcl' : (Z16 cs (.ro isz [])).length = ti.size := Z4t hcl hsz
 let p : Nat → Option Nat := fun t => if t < i then some t else if t = i then none else some (t - 1)
 have hC' := hC.ins (Q' := Z4n p F w ei ti.size isz es.length none B V) hil hcl' hvl
  (fun t j x u ht htl hj h => by
   unfold Z4n
   rw [show p t = some t from if_pos ht]
   exact h)
  (fun t j x u ht htl hj h => by
   unfold Z4n
   rw [show p (t + 1) = some t from by simp only [p]; rw [if_neg (by omega), if_neg (by omega), Nat.add_sub_cancel]]
   exact h)
  (fun j x hj => by
   unfold Z4n
   rw [show p i = none from by simp [p]]
   rcases Z77 hcl hsz hj with ⟨e1, rfl⟩ | ⟨e1, e2⟩
   ·have e3 : j = ti.size - 1 := by omega
    obtain ⟨u, k1, k2, k3⟩ := hvr j _ (by rw [e3]; exact hlast)
    exact ⟨u, k1, k2, .inl ⟨e1, rfl, by cases k3; rfl⟩⟩
   ·obtain ⟨u, k1, k2, k3⟩ := hvr j x e2
    exact ⟨u, k1, k2, .inr ⟨by omega, k3⟩⟩)
 have hel : (es.take i ++ Z16 cs (.ro isz []) :: es.drop i).length = es.length + 1 := by simp; omega
 have hcall := hI w R.has A es.length c us i vb vo vc vcur vs hH hil hbig hgv hvs hvl h1v (fun h => hne (hr.heap.inj _ _ _ (hown vb (.inl h)) hvb))
 rw [← hv, ← hiv, ← hvz] at hcall
 rw [show (#[y, iop, z].map a.eval) = #[a.eval y, a.eval iop, a.eval z] from by simp]
 refine hcall.mono fun en w' hp => ?_
 obtain ⟨k, v, rfl, hv1, k1, k2, k3, k4⟩ := Z78 (F := F) hp hel.symm hC' (fun g hg => (hr.heap.lt _ _ (hown g (.inl hg))).1)
 obtain ⟨σ', hr2, hv2⟩ := Ze1 hr hid h1 h4 (p := p) (fun t t' q h h' => by
   simp only [p] at h h'
   split at h <;> split at h' <;> (try split at h) <;> (try split at h') <;> simp at h h' <;> omega) k1 k2 hv1 (fun t q ht h => ⟨by
   rw [hel] at ht
   simp only [p] at h
   split at h
   ·simp at h; omega
   ·split at h
    ·cases h
    ·simp at h; omega, by simp⟩) (fun t q ht h => by
   rw [hel] at ht
   simp only [p] at h
   split at h
   ·omega
   ·split at h
    ·cases h
    ·simp at h; omega) k3 k4 hm
 exact ⟨v, _, F, _, _, rfl, hr2, hv2, hK⟩
theorem Zgk {fop y iop z : Operand} {ts : Array Nat} (ho : o.op = .call { callee := .value fop, args := #[y, iop, z], argTypes := ts }) {f : Nat} (hf : s.ev fop = .fn f []) (hE : Enters P f) {e ei isz : Nat} {ti : TI} (hI : Zik P f e ti) {id i : Nat} {hole : Option Nat} {es : List (List AV)}
  (hy : s.ev y = .nm id [0]) (hi : s.ev iop = .v (.int .i64 (i : Int))) (hil : i < es.length) (hz : s.ev z = .v (.int .i64 ((i + 1 : Nat) : Int))) (hq : s.heap[id]? = some (.lin e ei ti.size isz none hole es)) (hh : hole = none ∨ hole = some i) (hm : X.m ≤ id)
  (hd : dOK X.n o.dst) (hK : K (St.put ⟨Zo (Z5 id) s.env, (s.heap.map (AObj.sub (Z5 id))).set id (.lin e ei ti.size isz none none (es.take i ++ es.drop (i + 1)))⟩ o.dst (.nm id [0]))) : opWP P X o K s := by
 refine opWP.calls ho hf hE hd (fun σ F a w hr => ?_)
 have hid : id < s.heap.length := (List.getElem?_eq_some_iff.1 hq).1
 obtain ⟨R, B, V, h1, h2, h3, h4⟩ := Z4o hr hy hq
 have h4 : LinRep F w e ei ti.size isz es.length hole es R B V := h4
 have hroot : RootQ R w e ti.size es (Z6d F w ei ti.size isz es.length hole B V) := h4.root
 obtain ⟨A, c, us, hv, hH, hC⟩ := hroot.hdr (v := a.eval y) (h2 ▸ h4.rhdr)
 have hiv := (hi ▸ hr.ev iop).val
 have hjv := (hz ▸ hr.ev z).val
 have hown : ∀ g, Z1g R B g → hasB σ id g := fun g hg => ⟨_, h1, hg⟩
 let p : Nat → Option Nat := fun t => if t < i then some t else some (t + 1)
 have hC' := hC.del (Q' := Z4n p F w ei ti.size isz es.length hole B V) hil
  (fun t j x u ht hj h => by
   unfold Z4n
   rw [show p t = some t from if_pos ht]
   exact h)
  (fun t j x u ht htl hj h => by
   unfold Z4n
   rw [show p t = some (t + 1) from if_neg (by omega)]
   exact h)
 have hel : (es.take i ++ es.drop (i + 1)).length = es.length - 1 := by simp; omega
 have hcall := hI w R.has A es.length c us i (i + 1) hH hil rfl
 rw [← hv, ← hiv, ← hjv] at hcall
 rw [show (#[y, iop, z].map a.eval) = #[a.eval y, a.eval iop, a.eval z] from by simp]
 refine hcall.mono fun en w' hp => ?_
 obtain ⟨k, v, rfl, hv1, k1, k2, k3, k4⟩ := Z78 (F := F) hp hel.symm hC' (fun g hg => (hr.heap.lt _ _ (hown g (.inl hg))).1)
 obtain ⟨σ', hr2, hv2⟩ := Ze1 hr hid h1 h4 (p := p) (fun t t' q h h' => by
   simp only [p] at h h'
   split at h <;> split at h' <;> simp at h h' <;> omega) k1 k2 hv1 (fun t q ht h => by
   rw [hel] at ht
   simp only [p] at h
   refine ⟨by split at h <;> simp at h <;> omega, ?_⟩
   rcases hh with rfl | rfl
   ·simp
   ·intro e; cases e
    split at h <;> simp at h <;> omega) (fun t q ht h => by
   rw [hel] at ht
   simp only [p] at h
   split at h <;> simp at h <;> omega) k3 k4 hm
 exact ⟨v, _, F, _, _, rfl, hr2, hv2, hK⟩
end
end Go.Proofs.YtnehieeplbgaiacDoor.Eng
set_option linter.unusedVariables false
set_option linter.unusedSimpArgs false
namespace Go.Proofs.YtnehieeplbgaiacDoor.Eng
open Go Go.RowKit
def Zer (S : Nat → List AV → Prop) : List Nat → List AV → Prop
 | [], xs => xs = []
 | t :: ts, xs => ∃ a b, xs = a ++ b ∧ S t a ∧ Zer S ts b
def ShapeC (T : Tab) : Nat → Nat → List AV → Prop
 | 0, _, _ => False
 | m + 1, t, xs => match T t with
  | some ⟨.int k, _, _, _⟩ => ∃ n, xs = [.v (.int k n)] ∧ (Lit.int k n).wf = true
  | some ⟨.bool, _, _, _⟩ => ∃ b, xs = [.v (.bool b)]
  | some ⟨.str, _, _, _⟩ => ∃ s : ByteArray, xs = [.v (.string s)] ∧ s.size ≤ reachBytes
  | some ⟨.slice e, _, _, _⟩ => match T e with
   | some i => ∃ es, xs = [.ro i.size es] ∧ es.length * i.bytes ≤ reachBytes ∧ ∀ c ∈ es, ShapeC T m e c
   | none => False
  | some ⟨.struct fs, _, _, _⟩ => Zer (ShapeC T m) (fs.map (·.2)) xs
  | _ => False
def Zay (T : Tab) : Nat → List (Nat × Nat) → Option Nat
 | off, [] => some off
 | off, (o, t) :: r => if o = off then match T t with | some i => Zay T (off + i.size) r | none => none else none
def supB (T : Tab) : Nat → Nat → Bool
 | 0, _ => false
 | m + 1, t => match T t with
  | some ⟨.int _, _, _, _⟩ | some ⟨.bool, _, _, _⟩ | some ⟨.str, _, _, _⟩ => true
  | some ⟨.slice e, _, _, _⟩ => match T e with | some i => decide (0 < i.size) && supB T m e | none => false
  | some ⟨.struct fs, n, _, _⟩ => decide (Zay T 0 fs = some n) && fs.all (fun p => supB T m p.2)
  | _ => false
def Zao (F : Nat → Prop) (w : World) (xs : List AV) (cs : List Value) : Prop := xs.length = cs.length ∧ ∀ (j : Nat) (x : AV) (v : Value), xs[j]? = some x → cs[j]? = some v → RepF F w x v ∧ v.oneCell' = true
section
variable {H : Type} {enc : TypeId × Value → H} {P : Program} {T : Tab} {w : World} {sp : Nat → Bool} {held : Bool}
theorem TIOk.cellsOf {t : Nat} {i : TI} (h : TIOk P t i) : P.cellsOf t = i.size ∧ P.bytesOf t = i.bytes := by
 obtain ⟨x, hx, hh⟩ := Option.map_eq_some_iff.1 h.info
 simp only [Prod.mk.injEq] at hh
 simp [Program.cellsOf, Program.bytesOf, hx, hh.2.1, hh.2.2]
theorem tile_le : ∀ {l : List (Nat × Nat)} {off e : Nat}, Zay T off l = some e → off ≤ e
 | [], off, e, h => by simp [Zay] at h; omega
 | (o, t) :: r, off, e, h => by
  unfold Zay at h
  split at h
  ·split at h
   ·have := tile_le h; omega
   ·cases h
  ·cases h
theorem Z4j {e : Nat} : ∀ {l : List (DataW H)} {d : DataW H}, (DataW.weightsAll P e l).all (· ≤ reachBytes) = true → d ∈ l → (d.weights P e).all (· ≤ reachBytes) = true
 | y :: r, d, h, hd => by
  unfold DataW.weightsAll at h
  rw [List.all_append, Bool.and_eq_true] at h
  rcases List.mem_cons.1 hd with rfl | hd
  ·exact h.1
  ·exact Z4j h.2 hd
theorem Zgv {α : Type} {Pr : Nat → α → Prop} : ∀ (n : Nat), (∀ i, i < n → ∃ c, Pr i c) → ∃ l : List α, l.length = n ∧ ∀ i c, l[i]? = some c → Pr i c
 | 0, _ => ⟨[], rfl, fun i c h => by simp at h⟩
 | n + 1, h => by
  obtain ⟨l, hl, hp⟩ := Zgv n (fun i hi => h i (by omega))
  obtain ⟨c, hc⟩ := h n (by omega)
  refine ⟨l ++ [c], by simp [hl], fun i x hx => ?_⟩
  rcases Nat.lt_or_ge i l.length with h1 | h1
  ·rw [List.getElem?_append_left h1] at hx; exact hp i x hx
  ·rw [List.getElem?_append_right h1] at hx
   have h2 : i - l.length = 0 := by
    have := (List.getElem?_eq_some_iff.1 hx).1; simp at this; exact this
   rw [h2] at hx
   simp at hx
   subst hx
   obtain rfl : i = n := by omega
   exact hc
abbrev Old (w : World) : Nat → Prop := fun b => b < w.heap.size
theorem Z7c {m n : Nat} {cs : List Value} (hT : Zh P T) (ih : ∀ (t : Nat) (cs : List Value) (x : DataW H × List MemPlace), supB T m t = true → DataW.trod enc P w 0 sp held n t cs = some x → (x.1.weights P t).all (· ≤ reachBytes) = true → ∃ xs, ShapeC T m t xs ∧ Zao (Old w) w xs cs) :
  ∀ (fl : List Field) (xs : List (DataW H × List MemPlace)) (off e : Nat), fl.length = xs.length → (∀ (i : Nat) (f : Field), fl[i]? = some f → DataW.trod enc P w 0 sp held n f.type ((cs.drop f.offset).take (P.cellsOf f.type)) = xs[i]?) → Zay T off (fl.map fun f => (f.offset, f.type)) = some e → e = cs.length →
   (fl.map fun f => (f.offset, f.type)).all (fun p => supB T m p.2) = true → (DataW.weightsEach P (fl.map (·.type)) (xs.map (·.1))).all (· ≤ reachBytes) = true →
   ∃ ys, Zer (ShapeC T m) (fl.map (·.type)) ys ∧ off + ys.length = e ∧ ∀ (j : Nat) (x : AV) (v : Value), ys[j]? = some x → cs[off + j]? = some v → RepF (Old w) w x v ∧ v.oneCell' = true
 | [], xs, off, e, hl, h, ht, he, hs, hw => ⟨[], rfl, by simp [Zay] at ht; simpa using ht, fun j x v hx => by simp at hx⟩
 | f :: fl, [], off, e, hl, h, ht, he, hs, hw => by simp at hl
 | f :: fl, x :: xs, off, e, hl, h, ht, he, hs, hw => by
  simp only [List.map_cons, Zay] at ht
  split at ht
  ·rename_i ho
   split at ht
   ·rename_i i hi
    simp only [List.map_cons, List.all_cons, Bool.and_eq_true] at hs
    simp only [List.map_cons, DataW.weightsEach, List.all_append, Bool.and_eq_true] at hw
    have hle := tile_le ht
    have h0 := h 0 f rfl
    rw [(hT _ _ hi).cellsOf.1, ho] at h0
    obtain ⟨a, ha, hal, hac⟩ := ih _ _ x hs.1 h0 hw.1
    obtain ⟨b, hb, hbl, hbc⟩ := Z7c hT ih fl xs _ e (by simpa using hl) (fun k g hg => h (k + 1) g (by simpa using hg)) ht he hs.2 hw.2
    have hal' : a.length = i.size := by rw [hal]; simp; omega
    refine ⟨a ++ b, ⟨a, b, rfl, ha, hb⟩, by simp; omega, fun j x v hx hv => ?_⟩
    rcases Nat.lt_or_ge j a.length with h1 | h1
    ·rw [List.getElem?_append_left h1] at hx
     refine hac j x v hx ?_
     rw [List.getElem?_take, if_pos (by omega), List.getElem?_drop]
     exact hv
    ·rw [List.getElem?_append_right h1] at hx
     refine hbc _ x v hx ?_
     rw [← hv]; congr 1; omega
   ·cases ht
  ·cases ht
theorem Z5y (hT : Zh P T) : ∀ (m : Nat) (t fuel : Nat) (cs : List Value) (x : DataW H × List MemPlace), supB T m t = true → DataW.trod enc P w 0 sp held fuel t cs = some x → (x.1.weights P t).all (· ≤ reachBytes) = true →
  ∃ xs, ShapeC T m t xs ∧ Zao (Old w) w xs cs
 | 0, _, _, _, _, hs, _, _ => by simp [supB] at hs
 | m + 1, t, fuel, cs, x, hs, h, hw => by
  have one : ∀ (y : Value), y.oneCell' = true → Zao (Old w) w [.v y] [y] := fun y hy => ⟨rfl, fun j x v hx hv => by
   have : j = 0 := by have := (List.getElem?_eq_some_iff.1 hx).1; simp at this; exact this
   subst this
   simp at hx hv
   subst hx hv
   exact ⟨.v _, hy⟩⟩
  unfold supB at hs
  unfold ShapeC
  split at hs
  ·rename_i k n b z ht
   obtain ⟨q, rfl, rfl, hq⟩ := DataW.trod_int (hT _ _ ht).kind h
   try rw [ht]
   exact ⟨_, ⟨q, rfl, hq⟩, one _ rfl⟩
  ·rename_i n b z ht
   obtain ⟨q, rfl, rfl⟩ := DataW.trod_bool (hT _ _ ht).kind h
   try rw [ht]
   exact ⟨_, ⟨q, rfl⟩, one _ rfl⟩
  ·rename_i n b z ht
   obtain ⟨q, rfl, rfl, hq⟩ := DataW.trod_string (hT _ _ ht).kind h
   try rw [ht]
   refine ⟨_, ⟨q, rfl, ?_⟩, one _ rfl⟩
   simp [DataW.weights] at hw
   exact hw
  ·rename_i e n b z ht
   split at hs
   ·rename_i i hi
    rw [Bool.and_eq_true, decide_eq_true_eq] at hs
    try rw [ht]
    try rw [hi]
    obtain ⟨hsz, hby⟩ := (hT _ _ hi).cellsOf
    rcases DataW.trod_slice (hT _ _ ht).kind h with ⟨rfl, rfl⟩ | ⟨a, len, cap, elems, rest, q, rfl, rfl, rfl, hb, hl, hm, hlen, hel, _, _⟩
    ·refine ⟨_, ⟨[], rfl, by simp, fun c hc => by cases hc⟩, rfl, fun j x v hx hv => ?_⟩
     have : j = 0 := by have := (List.getElem?_eq_some_iff.1 hx).1; simp at this; exact this
     subst this
     simp at hx hv
     subst hx hv
     exact ⟨.nil0 _ _ _, rfl⟩
    ·simp only [DataW.weights, (show P.underlying t = some (.slice e) from (hT _ _ ht).kind), List.all_cons, List.all_append, Bool.and_eq_true, decide_eq_true_eq] at hw
     obtain ⟨hw1, hw2, _⟩ := hw
     have each : ∀ k, k < len → ∃ c : List AV, ShapeC T m e c ∧ ∃ ds, w.cells? 0 (a.add (k * i.size)) i.size = some ds ∧ Zao (Old w) w c ds := fun k hk => by
      have h1 := hel k hk
      have hke : k < elems.length := by omega
      rw [hsz, List.getElem?_eq_getElem hke] at h1
      obtain ⟨ds, hds, htr⟩ := Option.bind_eq_some_iff.1 h1
      obtain ⟨c, hc, hcc⟩ := Z5y hT m e q ds _ hs.2 htr (Z4j hw2 (List.mem_map_of_mem (List.getElem_mem hke)))
      exact ⟨c, hc, ds, hds, hcc⟩
     obtain ⟨es, hes, hall⟩ := Zgv len each
     refine ⟨[.ro i.size es], ⟨es, rfl, ?_, fun c hc => ?_⟩, rfl, fun j x v hx hv => ?_⟩
     ·rw [hby] at hw1
      simp only [List.length_map] at hw1
      rw [hes]
      exact Nat.le_trans (Nat.mul_le_mul_right _ (by omega)) hw1
     ·obtain ⟨k, hk⟩ := List.getElem?_of_mem hc
      exact (hall k c hk).1
     ·have : j = 0 := by have := (List.getElem?_eq_some_iff.1 hx).1; simp at this; exact this
      subst this
      simp at hx hv
      subst hx hv
      refine ⟨?_, rfl⟩
      have key : ∀ k c, es[k]? = some c → c.length = i.size ∧ ∀ (j : Nat) (y : AV), c[j]? = some y → ∃ u, w.cell? (a.add (k * i.size + j)) = some u ∧ RepF (Old w) w y u ∧ u.oneCell' = true := fun k c hk => by
       obtain ⟨_, ds, hds, hcl, hcc⟩ := hall k c hk
       obtain ⟨_, hdl, hcell⟩ := World.cells?_some hds
       refine ⟨by omega, fun j y hy => ?_⟩
       have hj : j < c.length := (List.getElem?_eq_some_iff.1 hy).1
       have hj2 : j < ds.length := by omega
       obtain ⟨h1, h2⟩ := hcc j y ds[j] hy (List.getElem?_eq_getElem hj2)
       refine ⟨ds[j], ?_, h1, h2⟩
       rw [← Zan, hcell j (by omega), List.getElem?_eq_getElem hj2]
      rcases Nat.eq_zero_or_pos len with h0 | h0
      ·subst h0
       obtain rfl : es = [] := List.eq_nil_of_length_eq_zero hes
       exact .nil0 _ _ _
      ·refine .ro _ _ _ _ a (fun k j => (w.cell? (a.add (k * i.size + j))).getD undef) hes hl ?_ (fun c hc => ?_) (fun k c j y hk hy => ?_) (fun k c j y hk hy => ?_)
       ·obtain ⟨c, hc⟩ : ∃ c, es[0]? = some c := ⟨_, List.getElem?_eq_getElem (by omega)⟩
        obtain ⟨hcl, hcc⟩ := key 0 c hc
        obtain ⟨u, hu, _⟩ := hcc 0 _ (List.getElem?_eq_getElem (by omega))
        have := World.block_lt_of_cell? w _ hu
        rw [Z2j] at this
        exact this
       ·obtain ⟨k, hk⟩ := List.getElem?_of_mem hc
        exact (key k c hk).1
       ·obtain ⟨u, hu, h1, h2⟩ := (key k c hk).2 j y hy
        rw [hu]; exact ⟨rfl, h2⟩
       ·obtain ⟨u, hu, h1, h2⟩ := (key k c hk).2 j y hy
        rw [hu]; exact h1
   ·cases hs
  ·rename_i fs n b z ht
   rw [Bool.and_eq_true, decide_eq_true_eq] at hs
   try rw [ht]
   obtain ⟨ar, hu, hm⟩ := (hT _ _ ht).kind
   obtain ⟨xs, q, rfl, rfl, hcl, hxl, hx⟩ := DataW.trod_struct hu h
   subst hm
   have hcn : P.cellsOf t = n := (hT _ _ ht).cellsOf.1
   simp only [DataW.weights, hu] at hw
   obtain ⟨ys, h1, h2, h3⟩ := Z7c (cs := cs) hT (fun t cs x h1 h2 h3 => Z5y hT m t q cs x h1 h2 h3) ar.toList xs 0 n (by simp [hxl]) (fun k f hf => hx k f (by simpa using hf)) hs.1 (by rw [hcl, hcn]) hs.2 (by simpa using hw)
   refine ⟨ys, by simpa [List.map_map, Function.comp_def] using h1, by rw [hcl, hcn]; omega, fun j x v hx hv => h3 j x v hx (by simpa using hv)⟩
  ·cases hs
end
end Go.Proofs.YtnehieeplbgaiacDoor.Eng
set_option linter.unusedVariables false
set_option linter.unusedSimpArgs false
namespace Go.Proofs.YtnehieeplbgaiacDoor.Eng
open Go Go.RowKit Go.ChangeShapes Go.WideShapes
def Z94 (T : Tab) (m t : Nat) (x : AV) : Prop := match T t with
 | some ⟨.struct _, _, _, _⟩ => ∃ xs, x = .agg xs ∧ ShapeC T m t xs
 | _ => ShapeC T m t [x]
def Z95 (T : Tab) (m : Nat) : List Nat → List AV → Prop
 | [], xs => xs = []
 | t :: ts, xs => ∃ x r, xs = x :: r ∧ Z94 T m t x ∧ Z95 T m ts r
section
variable {H : Type} {enc : TypeId × Value → H} {P : Program} {T : Tab} {W : World}
theorem ShapeC.one {m t : Nat} {xs : List AV} (h : ShapeC T m t xs) (hns : ∀ fs n b z, T t ≠ some ⟨.struct fs, n, b, z⟩) : ∃ x, xs = [x] := by
 cases m with
 | zero => exact h.elim
 | succ m =>
  unfold ShapeC at h
  split at h
  ·obtain ⟨n, rfl, _⟩ := h; exact ⟨_, rfl⟩
  ·obtain ⟨n, rfl⟩ := h; exact ⟨_, rfl⟩
  ·obtain ⟨n, rfl, _⟩ := h; exact ⟨_, rfl⟩
  ·split at h
   ·obtain ⟨n, rfl, _⟩ := h; exact ⟨_, rfl⟩
   ·exact h.elim
  ·rename_i fs n b z ht
   exact absurd ht (hns fs n b z)
  ·exact h.elim
theorem Zj4 (hT : Zh P T) {m t : Nat} {v : Value} {d : DataW H} {p : List MemPlace} {sp : Nat → Bool} {held : Bool} {r : Reach} {b0 : Nat} (hs : supB T m t = true) (hval : Value.okWide P W r b0 t v) (h : DataW.Trod enc P W 0 sp held t v d p) (hw : (d.weights P t).all (· ≤ reachBytes) = true) :
  ∃ x, Z94 T m t x ∧ RepV (fun _ => none) (Old W) W x v := by
 obtain ⟨fuel, hf⟩ := h
 obtain ⟨xs, hx, hl, hc⟩ := Z5y hT m t fuel _ _ hs hf hw
 by_cases hst : ∃ fs n b z, T t = some ⟨.struct fs, n, b, z⟩
 ·obtain ⟨fs, n, b, z, ht⟩ := hst
  obtain ⟨ar, hu, _⟩ := (hT _ _ ht).kind
  simp only [Value.okWide, hu] at hval
  obtain ⟨cs, rfl, _, _⟩ := hval
  refine ⟨.agg xs, by unfold Z94; rw [ht]; exact ⟨xs, rfl, hx⟩, ?_⟩
  have := RepV.agg (σ := fun _ => none) (F := Old W) (w := W) xs cs.toList (by simpa [Value.cells] using hl) (fun u hu => ?_) (fun j x u hx hu => .f _ _ (hc j x u hx (by simpa [Value.cells] using hu)).1)
  ·simpa using this
  ·obtain ⟨j, hj⟩ := List.getElem?_of_mem hu
   have hj1 : j < xs.length := by
    rw [hl]; exact (List.getElem?_eq_some_iff.1 (by simpa [Value.cells] using hj)).1
   exact (hc j _ u (List.getElem?_eq_getElem hj1) (by simpa [Value.cells] using hj)).2
 ·have hns : ∀ fs n b z, T t ≠ some ⟨.struct fs, n, b, z⟩ := fun fs n b z e => hst ⟨fs, n, b, z, e⟩
  obtain ⟨x, rfl⟩ := hx.one hns
  have hv : v.cells.toList = [v] := by
   cases m with
   | zero => exact hx.elim
   | succ m =>
    unfold supB at hs
    split at hs
    ·rename_i ht; obtain ⟨q, rfl⟩ := okWide_int (hT _ _ ht).kind hval; rfl
    ·rename_i ht; obtain ⟨q, rfl⟩ := okWide_bool (hT _ _ ht).kind hval; rfl
    ·rename_i ht; obtain ⟨q, rfl⟩ := okWide_string (hT _ _ ht).kind hval; rfl
    ·rename_i ht; obtain ⟨_, _, _, rfl⟩ := okWide_slice (hT _ _ ht).kind hval; rfl
    ·rename_i ht; exact absurd ht (hns _ _ _ _)
    ·cases hs
  refine ⟨x, ?_, .f _ _ (hc 0 x v rfl (by rw [hv]; rfl)).1⟩
  unfold Z94
  split
  ·rename_i ht; exact absurd ht (hns _ _ _ _)
  ·exact hx
theorem Zbc (hT : Zh P T) {m : Nat} {r : Reach} {b0 : Nat} : ∀ (ts : List Nat) (vs : List Value) (ds : List (DataW H)) (p : List MemPlace), ts.all (supB T m) = true → DataW.TrodAll enc P W 0 (fun _ => true) true ts vs ds p →
  (∀ (j : Nat) t v, ts[j]? = some t → vs[j]? = some v → Value.okWide P W r b0 t v) → (DataW.weightsEach P ts ds).all (· ≤ reachBytes) = true →
  ∃ xs, Z95 T m ts xs ∧ xs.length = vs.length ∧ ∀ (j : Nat) (x : AV) (u : Value), xs[j]? = some x → vs[j]? = some u → RepV (fun _ => none) (Old W) W x u
 | [], vs, ds, p, hs, h, hval, hw => by
  cases vs with
  | nil => exact ⟨[], rfl, rfl, fun j x u hx => by simp at hx⟩
  | cons v vs => simp [DataW.TrodAll] at h
 | t :: ts, vs, ds, p, hs, h, hval, hw => by
  obtain ⟨v, vs', d, ds', p1, q, rfl, rfl, rfl, h1, h2⟩ := trodAll_cons h
  simp only [List.all_cons, Bool.and_eq_true] at hs
  simp only [DataW.weightsEach, List.all_append, Bool.and_eq_true] at hw
  obtain ⟨x, hx, hr⟩ := Zj4 hT hs.1 (hval 0 t v rfl rfl) h1 hw.1
  obtain ⟨xs, hxs, hl, hrs⟩ := Zbc hT ts vs' ds' q hs.2 h2 (fun j t' v' a b => hval (j + 1) t' v' (by simpa using a) (by simpa using b)) hw.2
  refine ⟨x :: xs, ⟨x, xs, rfl, hx, hxs⟩, by simp [hl], fun j y u hy hu => ?_⟩
  cases j with
  | zero => simp at hy hu; subst hy hu; exact hr
  | succ j => exact hrs j y u (by simpa using hy) (by simpa using hu)
theorem Z5t (hl : laidOutB P = true) {W' : World} (hb : Below W.heap.size W W') : ∀ (ts : List Nat) (vs : List Value) (ds : List (DataW H)) (p : List MemPlace), ts.all (fun t => P.readableRec t && decide (t < P.types.size)) = true → DataW.TrodAll enc P W 0 (fun _ => true) true ts vs ds p →
  DataW.TrodAll enc P W' 0 (fun b => decide (b < W.heap.size)) true ts vs ds p
 | [], vs, ds, p, hs, h => by
  cases vs <;> cases ds <;> simp [DataW.TrodAll] at h ⊢
  exact h
 | t :: ts, vs, ds, p, hs, h => by
  obtain ⟨v, vs', d, ds', p1, q, rfl, rfl, rfl, h1, h2⟩ := trodAll_cons h
  simp only [List.all_cons, Bool.and_eq_true, decide_eq_true_eq] at hs
  refine ⟨p1, q, Below.trod hl hs.1.1 hs.1.2 h1 hb (fun x hx => ?_), Z5t hl hb ts vs' ds' q (by simpa using hs.2) h2, rfl⟩
  obtain ⟨n, hn⟩ := h1
  exact DataW.trod_lt n _ _ _ hn x hx
theorem Zh4 (hlay : Lays (Old W) W) (hT : Zh P T) (hl : laidOutB P = true) {m f : Nat} {ts : List Nat} (law : ∀ xs, Z95 T m ts xs → FPure P f xs (.v (.bool true))) (hs : ts.all (supB T m) = true) (hr : ts.all (fun t => P.readableRec t && decide (t < P.types.size)) = true)
  {vs : List Value} {ds : List (DataW H)} {p : List MemPlace} {r : Reach} {b0 : Nat} (h : DataW.TrodAll enc P W 0 (fun _ => true) true ts vs ds p) (hval : ∀ (j : Nat) t v, ts[j]? = some t → vs[j]? = some v → Value.okWide P W r b0 t v)
  (hw : (DataW.weightsEach P ts ds).all (· ≤ reachBytes) = true) : Calls P f vs.toArray W fun e W' => e = .returned (.bool true) ∧ Below W.heap.size W W' ∧ DataW.TrodAll enc P W' 0 (fun b => decide (b < W.heap.size)) true ts vs ds p := by
 obtain ⟨xs, hx, hlen, hrep⟩ := Zbc hT ts vs ds p hs h hval hw
 have hrep0 : HRep (fun _ => none) (Old W) W [] :=
  ⟨fun id ob ho => by simp at ho, fun _ _ => rfl, fun id id' g h1 => (by obtain ⟨_, h1, _⟩ := h1; cases h1), fun id g h1 => (by obtain ⟨_, h1, _⟩ := h1; cases h1), fun b hb => hb, hlay⟩
 refine (law xs hx (fun _ => none) (Old W) W vs hrep0 hlen hrep).mono ?_
 rintro e W' ⟨ret, h', σ', F', rv, ⟨rfl, rfl⟩, rfl, h1, h2, h3, h4, h5, h6, h7⟩
 have hb : Below W.heap.size W W' := ⟨h3.os, h3.tape, h3.output, h3.size, fun k hk => h3.block k hk (fun ⟨id, k, h, _⟩ => by cases h)⟩
 exact ⟨by rw [RepV.val h1], hb, Z5t hl hb ts vs ds p hr h⟩
end
end Go.Proofs.YtnehieeplbgaiacDoor.Eng
