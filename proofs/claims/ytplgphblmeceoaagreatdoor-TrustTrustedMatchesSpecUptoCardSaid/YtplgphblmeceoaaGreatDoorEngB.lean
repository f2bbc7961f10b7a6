/-
  An abstract-state layer over the kit's wp, second part: code, loops, drawn regions, contracts, a law's row. No condition; nothing here is trusted.
-/
import Derived.Test.YtplgphblmeceoaaGreatDoorEngA
import Derived.StillTail
import Derived.OrdersHeld
import Derived.Laws.StructEq
import Derived.Carry
import Derived.MapKept
import Derived.Sort.Grow
import Derived.ChangeArms
import Derived.ChangeOld
import Derived.SizedLaws
import Derived.DataReads
import Derived.WalkKit
import Derived.ProofKit
import Derived.OpenShut
import Derived.ShutString
import Derived.Below
set_option linter.unusedVariables false
set_option linter.unusedSimpArgs false
namespace Go.Proofs.YtplgphblmeceoaaGreatDoor.Eng
open Go Go.RowKit
def lendM (h : List AObj) : AV → AV
 | .nm id k => match k, h[id]? with
  | [], some (.mapo es) => .mp es
  | _, _ => .nm id k
 | x => x
def Z1d (h : List AObj) : AV → AV
 | .own id sz off len => match h[id]? with
  | some (.row _ rs es) => if sz = rs then .ro sz ((es.drop off).take len) else .any
  | _ => .any
 | .ptr id i sz j => match h[id]? with
  | some (.row _ rs es) => if sz = rs then .rp ((getRow es i).drop j) else .any
  | some (.box _ cs) => if i = 0 ∧ (cs.map (AV.sub (lendM h))).all AV.flat = true then .rp ((cs.map (AV.sub (lendM h))).drop j) else .any
  | _ => .any
 | .nm id k => match k, h[id]? with
  | [], some (.mapo es) => .mp es
  | _, _ => .any
 | x => x
mutual
def AV.plain : AV → Bool
 | .any | .v _ => true
 | .tup cs => AV.plainL cs
 | .agg cs => AV.plainL cs
 | _ => false
def AV.plainL : List AV → Bool
 | [] => true
 | x :: r => x.plain && AV.plainL r
end
section
variable {P : Program} {T : Tab} {X : Ctx} {σ σ' : Nat → Option Blk} {F F' : Nat → Prop} {s s' : St} {a : Act} {w w' : World} {o : Oper} {c : Prop} {x : AV} {v : Value} {K : St → Prop}
theorem AV.plainL_get : ∀ {l : List AV} {j : Nat} {x : AV}, AV.plainL l = true → l[j]? = some x → x.plain = true
 | y :: r, 0, x, h, hx => by simp at hx; subst hx; simp only [AV.plainL, Bool.and_eq_true] at h; exact h.1
 | y :: r, j + 1, x, h, hx => by simp only [AV.plainL, Bool.and_eq_true] at h; exact AV.plainL_get h.2 (by simpa using hx)
theorem RepV.plain (h : RepV σ F w x v) : x.plain = true → RepV σ' F' w' x v := by
 induction h with
 | f x y h =>
  intro hp
  cases h with
  | any => exact .f _ _ (.any _)
  | v => exact .f _ _ (.v _)
  | _ => simp [AV.plain] at hp
 | agg cs vs hl h1 h ih =>
  intro hp
  simp only [AV.plain] at hp
  exact .agg _ _ hl h1 (fun j x u hx hu => ih j x u hx hu (AV.plainL_get hp hx))
 | tup cs vs hl h ih =>
  intro hp
  simp only [AV.plain] at hp
  exact .tup _ _ hl (fun j x u hx hu => ih j x u hx hu (AV.plainL_get hp hx))
 | _ => intro hp; simp [AV.plain] at hp
def Zgn (σ : Nat → Option Blk) (F : Nat → Prop) (b : Nat) : Prop := F b ∨ ∃ id, hasB σ id b
theorem RepF.lent (h : RepF F w x v) : RepF (Zgn σ F) w x v := h.mono (fun _ h => .inl h) (fun _ _ => rfl)
theorem RepV.nmv {id : Nat} {k : List Nat} (h : RepV σ F w (.nm id k) v) : ∃ gs V, σ id = some (.ext gs V) ∧ v = V k := by
 cases h with
 | f _ _ h => cases h
 | nm _ _ gs V h _ => exact ⟨gs, V, h, rfl⟩
theorem RepV.lendM {h : List AObj} (hr : HRep σ F w h) (hv : RepV σ F w x v) : RepV σ (Zgn σ F) w (x.sub (lendM h)) v := by
 refine hv.sub (fun _ _ h => h.lent) ?_ ?_ ?_
 ·intro id sz off len y hy
  exact hy.mono (fun _ h => .inl h) (fun _ _ => rfl)
 ·intro id q sz j y hy
  exact hy.mono (fun _ h => .inl h) (fun _ _ => rfl)
 ·intro id k y hy
  simp only [Eng.lendM]
  split
  ·rename_i es hq
   obtain ⟨g, arr, clock, h1, h2, h3⟩ := hr.obj id _ hq
   obtain ⟨gs, V, h4, h5⟩ := RepV.nmv hy
   rw [h1] at h4
   cases h4
   rw [h5]
   exact .f _ _ (.mp es g arr clock (.inr ⟨id, _, h1, rfl⟩) h2 h3)
  ·exact hy.mono (fun _ h => .inl h) (fun _ _ => rfl)
theorem RepV.borrow {h : List AObj} (hr : HRep σ F w h) (hv : RepV σ F w x v) : RepV (fun _ => none) (Zgn σ F) w (x.sub (Z1d h)) v := by
 refine hv.sub (fun _ _ h => h.lent) ?_ ?_ ?_
 ·intro id sz off len y hy
  simp only [Z1d]
  split
  ·rename_i e rs es hq
   have hob := hr.obj id _ hq
   by_cases hsz : sz = rs
   ·subst hsz
    rw [if_pos rfl]
    rcases RepV.ownv hy with ⟨h1, rfl, rfl, rfl⟩ | ⟨g, b, c, n, h1, hn, hc, hy⟩
    ·simpa using RepV.f _ _ (.nil0 sz 0 none)
    ·obtain ⟨rfl, h2, h3, V, hV⟩ := Z31 hob h1
     rcases Nat.eq_zero_or_pos len with h0 | h0
     ·subst h0
      rw [List.take_zero]
      rcases hy with rfl | ⟨_, _, _, A, rfl⟩
      ·exact .f _ _ (.nil0 _ _ _)
      ·exact .f _ _ (.nil0 _ _ _)
     ·rcases hy with rfl | ⟨h4, _⟩
      ·have hl : ((es.drop off).take len).length = len := by simp; omega
       have hget : ∀ q cs, ((es.drop off).take len)[q]? = some cs → es[off + q]? = some cs := fun q cs hq => by
        rw [List.getElem?_take] at hq
        split at hq
        ·rwa [List.getElem?_drop] at hq
        ·cases hq
       refine .f _ _ (.ro _ _ _ _ _ (fun q j => V (off + q) j) hl (by omega) (.inr ⟨_, .at h1⟩) (fun cs hcs => h3 cs (List.mem_of_mem_drop (List.mem_of_mem_take hcs))) (fun q cs j x hq hj => ?_) (fun q cs j x hq hj => ?_))
       ·obtain ⟨h5, h6, _⟩ := hV _ cs j x (hget q cs hq) hj
        refine ⟨?_, h6⟩
        rw [Zq, ← Nat.add_assoc, ← Nat.add_mul, Nat.add_assoc]
        exact h5
       ·exact (hV _ cs j x (hget q cs hq) hj).2.2.lent
      ·omega
   ·rw [if_neg hsz]; exact .f _ _ (.any _)
  ·exact .f _ _ (.any _)
 ·intro id q sz j y hy
  simp only [Z1d]
  obtain ⟨g, b, c, n, h1, rfl⟩ := RepV.ptrv hy
  split
  ·rename_i e rs es hq
   have hob := hr.obj id _ hq
   by_cases hsz : sz = rs
   ·subst hsz
    rw [if_pos rfl]
    obtain ⟨rfl, h2, h3, V, hV⟩ := Z31 hob h1
    have hget : ∀ k x, ((getRow es q).drop j)[k]? = some x → ∃ cs, es[q]? = some cs ∧ cs[j + k]? = some x := fun k x hk => by
     rw [List.getElem?_drop] at hk
     unfold getRow at hk
     cases he : es[q]? with
     | none => rw [he] at hk; simp at hk
     | some cs => rw [he] at hk; exact ⟨cs, rfl, hk⟩
    refine .f _ _ (.rp _ _ (fun k => V q (j + k)) (.inr ⟨_, .at h1⟩) (fun k x hk => ?_) (fun k x hk => ?_))
    ·obtain ⟨cs, h4, h5⟩ := hget k x hk
     obtain ⟨h6, h7, _⟩ := hV q cs _ x h4 h5
     refine ⟨?_, h7⟩
     rw [Zq, Nat.add_assoc]
     exact h6
    ·obtain ⟨cs, h4, h5⟩ := hget k x hk
     exact (hV q cs _ x h4 h5).2.2.lent
   ·rw [if_neg hsz]; exact .f _ _ (.any _)
  ·rename_i e cs hq
   split
   ·rename_i hc
    obtain ⟨rfl, hfl⟩ := hc
    obtain ⟨V, hV⟩ := Zbp (s := ⟨[], h⟩) hr h1 (k := 0) (sz := sz) (by simp only [hq, Zv])
    simp only [hq, Zv] at hV
    refine .f _ _ (.rp _ _ (fun k => V (j + k)) (.inr ⟨_, .at h1⟩) (fun k x hk => ?_) (fun k x hk => ?_))
    ·rw [List.getElem?_drop, List.getElem?_map, Option.map_eq_some_iff] at hk
     obtain ⟨x, hk, rfl⟩ := hk
     obtain ⟨h5, h6, _⟩ := hV _ x hk
     refine ⟨?_, h6⟩
     rw [Zq, Nat.add_assoc]
     exact h5
    ·rw [List.getElem?_drop] at hk
     have hfx := List.all_eq_true.1 hfl _ (List.mem_of_getElem? hk)
     rw [List.getElem?_map, Option.map_eq_some_iff] at hk
     obtain ⟨x, hk, rfl⟩ := hk
     exact ((hV _ x hk).2.2.lendM hr).toF hfx
   ·exact .f _ _ (.any _)
  ·exact .f _ _ (.any _)
 ·intro id k y hy
  simp only [Z1d]
  split
  ·rename_i es hq
   obtain ⟨g, arr, clock, h1, h2, h3⟩ := hr.obj id _ hq
   obtain ⟨gs, V, h4, h5⟩ := RepV.nmv hy
   rw [h1] at h4
   cases h4
   rw [h5]
   exact .f _ _ (.mp es g arr clock (.inr ⟨id, _, h1, rfl⟩) h2 h3)
  ·exact .f _ _ (.any _)
theorem Zh2 {h : List AObj} (hr : HRep σ F w h) : HRep (fun _ => none) (Zgn σ F) w [] := by
 refine ⟨fun id ob ho => by simp at ho, fun _ _ => rfl, fun id id' g h1 => (by obtain ⟨_, h1, _⟩ := h1; cases h1), fun id g h1 => (by obtain ⟨_, h1, _⟩ := h1; cases h1), fun b hb => ?_, hr.lay.mono (fun _ h => .inl h) (fun _ _ => rfl)⟩
 rcases hb with hb | ⟨id, hs⟩
 ·exact hr.flt b hb
 ·exact (hr.lt id b hs).1
theorem op_lent {fop : Operand} {ar : Array Operand} {ts : Array Nat} (ho : o.op = .call { callee := .value fop, args := ar, argTypes := ts }) {f : Nat} {caps : List AV} (hf : s.ev fop = .fn f caps) (hE : Enters P f) {R : AV}
  (spec : FSpec P f [] ((ar.toList.map s.ev ++ caps).map (AV.sub (Z1d s.heap))) (fun r h => r = R ∧ h = [])) (hp : R.plain = true) (hd : dOK X.n o.dst) (hK : K (St.put s o.dst R)) : opWPG P X o K s := by
 rintro Qc next a w hn ⟨σ, F, hr⟩
 obtain ⟨us, hfv, hul, hur⟩ := RepV.fnv (hf ▸ hr.ev fop)
 let vs : List Value := ar.toList.map a.eval ++ us
 have hl : ((ar.toList.map s.ev ++ caps).map (AV.sub (Z1d s.heap))).length = vs.length := by simp [vs, hul]
 have hrep : ∀ (j : Nat) (x : AV) (u : Value), ((ar.toList.map s.ev ++ caps).map (AV.sub (Z1d s.heap)))[j]? = some x → vs[j]? = some u → RepV (fun _ => none) (Zgn σ F) w x u := fun j x u hx hu => by
  rw [List.getElem?_map, Option.map_eq_some_iff] at hx
  obtain ⟨y, hy, rfl⟩ := hx
  refine RepV.borrow hr.heap ?_
  rcases Nat.lt_or_ge j ar.toList.length with h1 | h1
  ·rw [List.getElem?_append_left (by simpa using h1), List.getElem?_map, List.getElem?_eq_getElem h1] at hy
   simp only [vs] at hu
   rw [List.getElem?_append_left (by simpa using h1), List.getElem?_map, List.getElem?_eq_getElem h1] at hu
   injection hu with hu
   injection hy with hy
   rw [← hu, ← hy]
   exact hr.ev _
  ·rw [List.getElem?_append_right (by simpa using h1), List.length_map] at hy
   simp only [vs] at hu
   rw [List.getElem?_append_right (by simpa using h1), List.length_map] at hu
   exact hur _ _ _ hy hu
 have hcall := spec _ _ w vs (Zh2 hr.heap) hl hrep
 have hrun : (execOp a.eval o).run P w = .ok (.enter f vs.toArray) w := by
  have hva : ar.map a.eval ++ us.toArray = vs.toArray := by
   apply Array.ext'
   simp [vs]
  simp [execOp, ho, resolve, hfv, Deferred.ofValue, invoke, hva, hE vs.toArray w]
 unfold Oper.wp
 rw [hrun]
 show Calls P f vs.toArray w _
 refine hcall.mono ?_
 rintro e w' ⟨ret, h', σ', F', rv, ⟨rfl, rfl⟩, rfl, h1, h2, h3, h4, h5, h6, h7⟩
 have hk : Ext w w' := ⟨h3.os, h3.tape, h3.output, h3.size, fun b hb _ => h3.block b hb (fun ⟨id, k, h, _⟩ => by cases h)⟩
 exact hn _ _ _ hK ⟨σ, F, (hr.ext hk).put hd (h1.plain hp)⟩ ⟨hk.size, fun b hb => hk.block b hb (fun h => h)⟩
end
end Go.Proofs.YtplgphblmeceoaaGreatDoor.Eng
set_option linter.unusedVariables false
set_option linter.unusedSimpArgs false
namespace Go.Proofs.YtplgphblmeceoaaGreatDoor.Eng
open Go Go.RowKit
mutual
def AV.ids : AV → List Nat
 | .own id _ _ _ => [id]
 | .ptr id _ _ _ => [id]
 | .nm id _ => [id]
 | .agg cs => AV.idsL cs
 | .any | .v _ | .ro .. | .rp _ | .tup _ | .fn .. | .mp _ | .mq _ => []
def AV.idsL : List AV → List Nat
 | [] => []
 | x :: r => x.ids ++ AV.idsL r
end
def freezeAll (s : St) : List Nat → St
 | [] => s
 | id :: r => freezeAll (s.freeze id) r
section
variable {P : Program} {T : Tab} {X : Ctx} {σ σ' : Nat → Option Blk} {F F' : Nat → Prop} {s s' : St} {a : Act} {w w' : World} {o : Oper} {c : Prop} {x : AV} {v : Value} {K K' : St → Prop}
theorem Rep.freezeAll : ∀ (ids : List Nat) (s : St), Rep X s a w → Rep X (Eng.freezeAll s ids) a w
 | [], s, h => h
 | id :: r, s, h => Rep.freezeAll r _ (Rep.freeze h id)
theorem opWP.from (h : ∀ a w, Rep X s a w → Rep X s' a w) (k : opWP P X o K s') : opWP P X o K s := fun Qc next a w hn hr => k Qc next a w hn (h a w hr)
theorem opWP.mono (k : opWP P X o K s) (h : ∀ s, K s → K' s) : opWP P X o K' s := fun Qc next a w hn hr => k Qc next a w (fun s a w h1 h2 => hn s a w (h s h1) h2) hr
theorem op_pick {cnd p q : Operand} (ho : o.op = .pick cnd p q) {t : Bool} (hc : s.ev cnd = .v (.bool t)) (hd : dOK X.n o.dst) (h1 : t = true → K (s.put o.dst (s.ev p))) (h2 : t = false → K (s.put o.dst (s.ev q))) : opWP P X o K s := by
 rintro Qc next a w hn ⟨σ, F, hr⟩
 have hv : a.eval cnd = .bool t := RepV.val (hc ▸ hr.ev cnd)
 unfold Oper.wp
 cases t with
 | true =>
  have : (execOp a.eval o).run P w = .ok (.value (a.eval p)) w := by simp [execOp, ho, hv, asBool]
  rw [this]
  exact hn _ _ _ (h1 rfl) ⟨σ, F, hr.put hd (hr.ev p)⟩
 | false =>
  have : (execOp a.eval o).run P w = .ok (.value (a.eval q)) w := by simp [execOp, ho, hv, asBool]
  rw [this]
  exact hn _ _ _ (h2 rfl) ⟨σ, F, hr.put hd (hr.ev q)⟩
def Z9w (x : AV) : Option (Prop × Prop) :=
 match x with
 | .ro _ es => some (es ≠ [], es = [])
 | .own _ _ _ len => some (len ≠ 0, len = 0)
 | _ => none
theorem Z3y {t e : Nat} (hk : P.underlying t = some (.slice e)) (A : Option Addr) (n c : Nat) : (Op.equal t (.slice A n c) (.slice none 0 0)).run P w = .ok A.isNone w := by
 have h : ∀ d, (Op.equalIn (d + 1) t (.slice A n c) (.slice none 0 0)).run P w = .ok A.isNone w := fun d => by
  cases A <;> simp [Op.equalIn, run_underlying hk]
 exact h 9999
theorem Zj0 {t t' e : Nat} {y z : Operand} {op : BinOp} (hop : op = .eql ∨ op = .neq) (ho : o.op = .binOp op t y z t') (hT : Zo P T) {m p : Nat} {zv : Value} (ht : T t = some ⟨.slice e, m, p, zv⟩) (hz : s.ev z = .v (.slice none 0 0)) {c1 c2 : Prop} (hy : Z9w (s.ev y) = some (c1, c2)) (hd : dOK X.n o.dst)
  (h1 : c1 → K (s.put o.dst (.v (.bool (decide (op = .neq)))))) (h2 : c2 → ∀ b, K (s.put o.dst (.v (.bool b)))) : opWP P X o K s := by
 rintro Qc next a w hn ⟨σ, F, hr⟩
 have hu : P.underlying t = some (.slice e) := (hT _ _ ht).kind
 have hvz : a.eval z = .slice none 0 0 := RepV.val (hz ▸ hr.ev z)
 have key : ∃ A n c, a.eval y = .slice A n c ∧ (c1 → A.isNone = false) ∧ (¬ c1 → c2) := by
  unfold Z9w at hy
  split at hy
  ·rename_i sz es he
   cases hy
   obtain ⟨A, c, hv, _, hx⟩ := RepV.rov (he ▸ hr.ev y)
   exact ⟨A, _, c, hv, fun hne => by obtain ⟨ad, _, rfl, _⟩ := hx hne; rfl, fun h => Classical.not_not.1 h⟩
  ·rename_i id sz off len he
   cases hy
   rcases RepV.ownv (he ▸ hr.ev y) with ⟨_, _, rfl, hv⟩ | ⟨g, b, cp, n, _, _, _, hv | ⟨rfl, _, _, A, hv⟩⟩
   ·exact ⟨_, _, _, hv, fun h => absurd rfl h, fun _ => rfl⟩
   ·exact ⟨_, _, _, hv, fun _ => rfl, fun h => Classical.not_not.1 h⟩
   ·exact ⟨_, _, _, hv, fun h => absurd rfl h, fun _ => rfl⟩
  ·cases hy
 obtain ⟨A, n, cp, hvy, h3, h4⟩ := key
 have hrun : (execOp a.eval o).run P w = .ok (.value (.bool (A.isNone != decide (op = .neq)))) w := by
  rcases hop with rfl | rfl
  ·simp only [execOp, ho, hvy, hvz, eqGuard, binOp, Sem.run_bind, Z3y hu, Result.andThen_ok, Sem.run_pure]
   simp
  ·simp only [execOp, ho, hvy, hvz, eqGuard, binOp, Sem.run_bind, Z3y hu, Result.andThen_ok, Sem.run_pure]
   simp
 unfold Oper.wp
 rw [hrun]
 by_cases hc : c1
 ·rw [h3 hc]
  have : (false != decide (op = .neq)) = decide (op = .neq) := by simp
  rw [this]
  exact hn _ _ _ (h1 hc) ⟨σ, F, hr.put hd (.f _ _ (.v _))⟩
 ·exact hn _ _ _ (h2 (h4 hc) _) ⟨σ, F, hr.put hd (.f _ _ (.v _))⟩
end
@[irreducible] def OWED (P : Program) (X : Ctx) (o : Oper) (K : St → Prop) (s : St) : Prop := opWP P X o K s
theorem OWED.intro {P : Program} {X : Ctx} {o : Oper} {K : St → Prop} {s : St} (h : opWP P X o K s) : OWED P X o K s := by unfold OWED; exact h
def useVal (r : Option (Prop × AV)) (k : Prop → AV → Prop) (e : Unit → Prop) : Prop := match r with
 | some (c, x) => k c x
 | none => e ()
def useMem (r : Option (Prop × St × AV)) (k : Prop → St → AV → Prop) (e : Unit → Prop) : Prop := match r with
 | some (c, s, x) => k c s x
 | none => e ()
def Zcx (x : AV) (k : Bool → Prop) : Prop := match x with
 | .v (.bool b) => k b
 | _ => False
def useNil (r : Option (Prop × Prop × Bool)) (k : Prop → Prop → Bool → Prop) (e : Unit → Prop) : Prop := match r with
 | some (c1, c2, b) => k c1 c2 b
 | none => e ()
def Zjh (T : Tab) (m : Nat) (t t' : Nat) (yz : AV × AV) (s : St) : Option (Prop × St × AV) :=
 match T t with
 | some ⟨.slice e, _, _, _⟩ => match T e with
  | some ti => match Z22 s ti.size yz.2 with
   | some (c, news) => match yz.1 with
    | .v (.slice none 0 0) => some (c ∧ (match T t' with | some ⟨.slice _, _, _, _⟩ => True | some ⟨.str, _, _, _⟩ => True | _ => False) ∧ 0 < ti.size ∧ 0 < ti.bytes ∧ news.length * ti.bytes ≤ 140737488355328,
      St.appended ⟨s.env, s.heap ++ [.row e ti.size []]⟩ s.heap.length (.row e ti.size news), .own s.heap.length ti.size 0 news.length)
    | .own id sz off len => match s.heap[id]? with
     | some (.row e' rs es) => some (c ∧ (match T t' with | some ⟨.slice _, _, _, _⟩ => True | some ⟨.str, _, _, _⟩ => True | _ => False) ∧ 0 < ti.size ∧ 0 < ti.bytes ∧ e' = e ∧ rs = ti.size ∧ sz = ti.size ∧ off + len = es.length ∧ m ≤ id ∧ (len + news.length) * ti.bytes ≤ 140737488355328,
       s.appended id (.row e ti.size (es.drop off ++ news)), .own id ti.size 0 (len + news.length))
     | _ => none
    | _ => none
   | none => none
  | none => none
 | _ => none
abbrev Book := Nat → List AV → Option (Prop × AV)
def exCall (s : St) (f : Nat) (caps : List AV) (fop : Operand) (args : List Operand) : Option (Prop × AV) → Option (Prop × St × AV)
 | some (c, R) => if R.plain then some (c, s, R) else match caps with
  | [] => let s1 := freezeAll s (AV.idsL (args.map s.ev))
   some (s1.ev fop = .fn f [] ∧ (args.map s1.ev).map (AV.sub (Z20 [])) = (args.map s.ev ++ []).map (AV.sub (Z1d s.heap)) ∧ c, s1, R.sub (Z38 [] s1.heap.length))
  | _ => none
 | none => none
def exMem (T : Tab) (B : Book) (m : Nat) (s : St) (o : Oper) : Option (Prop × St × AV) :=
 match o.op with
 | .alloc e => match T e with
  | some i => some (True, ⟨s.env, s.heap ++ [.box e (i.zero.cells.toList.map .v)]⟩, .ptr s.heap.length 0 i.size 0)
  | none => none
 | .box e y => some ((s.ev y).full = true, ⟨s.env, s.heap ++ [.box e (cellsOf (s.ev y))]⟩, .ptr s.heap.length 0 0 0)
 | .build t parts => match T t with
  | some ⟨.struct fs, _, _, z⟩ => match Z2p T fs with
   | some pl => match Z5p pl (z.cells.toList.map .v) (parts.toList.map fun q => (q.1, s.ev q.2)) with
    | some (c, cs) => some (c, s, .agg cs)
    | none => none
   | none => none
  | _ => none
 | .buildSlice t len parts => match T t with
  | some ⟨.slice e, _, _, _⟩ => match T e with
   | some i => let s1 := freezeAll s (AV.idsL (parts.toList.map fun q => s.ev q.2))
    some (parts.toList.map (·.1) = List.range len ∧ rowOK i.size (parts.toList.map fun q => s1.ev q.2) ∧ 0 < i.size ∧ len * i.size ≤ 16777216,
    ⟨s1.env, s1.heap ++ [.row e i.size (parts.toList.map fun q => cellsOf (s1.ev q.2))]⟩, .own s1.heap.length i.size 0 len)
   | none => none
  | _ => none
 | .makeSlice t y z => match T t, s.ev y, s.ev z with
  | some ⟨.slice e, _, _, _⟩, .v (.int _ q), .v (.int _ q') => match T e with
   | some i => some (q = q' ∧ 0 ≤ q ∧ q * i.bytes ≤ 140737488355328 ∧ 0 < i.bytes ∧ 0 < i.size, ⟨s.env, s.heap ++ [.row e i.size (List.replicate q.toNat (i.zero.cells.toList.map .v))]⟩, .own s.heap.length i.size 0 q.toNat)
   | none => none
  | _, _, _ => none
 | .store t y z => match T t, s.ev y with
  | some i, .ptr id k sz j => match s.heap[id]? with
   | some (.box e cs) => some (k = 0 ∧ (s.ev z).full = true ∧ (cellsOf (s.ev z)).length = i.size ∧ j + i.size ≤ cs.length, ⟨s.env, s.heap.set id (.box e (putA cs j (cellsOf (s.ev z))))⟩, .any)
   | some (.row e rs es) => let s1 := freezeAll s (s.ev z).ids
    some (rs = sz ∧ k < es.length ∧ s1.heap[id]? = some (.row e rs es) ∧ s1.ev y = .ptr id k sz j ∧ (s1.ev z).full = true ∧ (cellsOf (s1.ev z)).all AV.flat = true ∧ (cellsOf (s1.ev z)).length = i.size ∧ j + i.size ≤ sz,
    ⟨s1.env, s1.heap.set id (.row e sz (es.set k (putA (getRow es k) j (cellsOf (s1.ev z)))))⟩, .any)
   | _ => none
  | _, _ => none
 | .call { callee := .builtin .append, args := args, argTypes := ts } => match args.toList, ts.toList with
  | [y, z], [t, t'] => Zjh T m t t' (s.ev y, s.ev z) s
  | _, _ => none
 | .call { callee := .value fop, args := args, .. } => match s.ev fop with
  | .fn f caps => exCall s f caps fop args.toList (B f ((args.toList.map s.ev ++ caps).map (AV.sub (Z1d s.heap))))
  | _ => none
 | _ => none
def eqOp (op : BinOp) : Option Bool := if op = .eql then some false else if op = .neq then some true else none
def exNil (T : Tab) (s : St) (op : BinOp) (t : Nat) (y z : Operand) : Option (Prop × Prop × Bool) :=
 match T t, s.ev z, Z9w (s.ev y), eqOp op with
 | some ⟨.slice _, _, _, _⟩, .v (.slice none 0 0), some (c1, c2), some b => some (c1, c2, b)
 | _, _, _, _ => none
def kVal (n : Nat) (o : Oper) (K : St → Prop) (s : St) (c : Prop) (x : AV) : Prop := dOK n o.dst ∧ c ∧ K (s.put o.dst x)
def kMem (n : Nat) (o : Oper) (K : St → Prop) (c : Prop) (s1 : St) (x : AV) : Prop := dOK n o.dst ∧ c ∧ K (s1.put o.dst x)
def kPick (n : Nat) (o : Oper) (K : St → Prop) (s : St) (p q : Operand) (t : Bool) : Prop := dOK n o.dst ∧ (t = true → K (s.put o.dst (s.ev p))) ∧ (t = false → K (s.put o.dst (s.ev q)))
def kNil (n : Nat) (o : Oper) (K : St → Prop) (s : St) (c1 c2 : Prop) (b : Bool) : Prop := dOK n o.dst ∧ (c1 → K (s.put o.dst (.v (.bool b)))) ∧ (c2 → ∀ b, K (s.put o.dst (.v (.bool b))))
def eOwed (P : Program) (X : Ctx) (o : Oper) (K : St → Prop) (s : St) (_ : Unit) : Prop := OWED P X o K s
def eVal (P : Program) (T : Tab) (B : Book) (X : Ctx) (n m : Nat) (o : Oper) (K : St → Prop) (s : St) (_ : Unit) : Prop := match o.op with
 | .pick cnd p q => Zcx (s.ev cnd) (kPick n o K s p q)
 | .binOp op t y z _ => useNil (exNil T s op t y z) (kNil n o K s) (eOwed P X o K s)
 | _ => useMem (exMem T B m s o) (kMem n o K) (eOwed P X o K s)
def exOpB (P : Program) (T : Tab) (B : Book) (X : Ctx) (n m : Nat) (o : Oper) (K : St → Prop) (s : St) : Prop := useVal (Zi T s o.op) (kVal n o K s) (eVal P T B X n m o K s)
def exOp (P : Program) (T : Tab) (B : Book) (X : Ctx) (n m : Nat) (o : Oper) (K : St → Prop) (s : St) : Prop := exOpB P T B X n m o K s
section
variable {P : Program} {T : Tab} {X : Ctx} {σ σ' : Nat → Option Blk} {F F' : Nat → Prop} {s s' : St} {a : Act} {w w' : World} {o : Oper} {c : Prop} {x : AV} {v : Value} {K K' : St → Prop}
theorem Zjx (s : St) : s.back [] [] = s := by
 cases s with
 | mk env heap =>
  simp only [St.back, Z4l, List.drop_nil, List.map_nil, List.append_nil, idx]
  congr 1
  apply List.ext_getElem?
  intro i
  simp
theorem leL_refl : ∀ (l : List AV), AV.leL l l
 | [] => trivial
 | x :: r => ⟨.refl x, leL_refl r⟩
end
end Go.Proofs.YtplgphblmeceoaaGreatDoor.Eng
set_option linter.unusedVariables false
set_option linter.unusedSimpArgs false
namespace Go.Proofs.YtplgphblmeceoaaGreatDoor.Eng
open Go Go.RowKit
def nthDst : List Oper → Nat → Option Nat
 | [], _ => none
 | o :: _, 0 => o.dst
 | _ :: r, j + 1 => nthDst r j
theorem nthDst_eq : ∀ (l : List Oper) (j : Nat), nthDst l j = (l[j]?).bind (·.dst)
 | [], j => by simp [nthDst]
 | o :: r, 0 => by simp [nthDst]
 | o :: r, j + 1 => by simp [nthDst, nthDst_eq r j]
def kGuard (n : Nat) (o : Oper) (d : Nat) (want : Bool) (K1 K2 : St → Prop) (s : St) (b : Bool) : Prop :=
 d < n ∧ dOK n o.dst ∧ (b = want → K1 ⟨(d, .v (.bool want)) :: s.env, s.heap⟩) ∧ (b = !want → K2 (St.put ⟨(d, .v (.bool (!want))) :: s.env, s.heap⟩ o.dst .any))
def kCond (K1 K2 : St → Prop) (s : St) (t : Bool) : Prop := (t = true → K1 s) ∧ (t = false → K2 s)
def Zjg (P : Program) (T : Tab) (B : Book) (X : Ctx) (n m : Nat) (ops : List Oper) : List Oper → (St → Prop) → St → Prop
 | [], K, s => K s
 | o :: r, K, s => match o.guard with
  | none => exOp P T B X n m o (Zjg P T B X n m ops r K) s
  | some (j, want) => match nthDst ops j with
   | some d => Zcx (envGet s.env d) (kGuard n o d want (exOp P T B X n m o (Zjg P T B X n m ops r K)) (Zjg P T B X n m ops r K) s)
   | none => False
@[irreducible] def LOOP (P : Program) (X : Ctx) (c : Code) (Q : Exit → St → Prop) (s : St) : Prop := WP P X c Q s
theorem LOOP.intro {P : Program} {X : Ctx} {c : Code} {Q : Exit → St → Prop} {s : St} (h : WP P X c Q s) : LOOP P X c Q s := by unfold LOOP; exact h
def ex (P : Program) (T : Tab) (B : Book) (X : Ctx) (n m : Nat) : Code → (Exit → St → Prop) → St → Prop
 | .skip, Q, s => Q .normal s
 | .region _ ops false, Q, s => Zjg P T B X n m ops.toList ops.toList (Q .normal) s
 | .seq a b, Q, s => ex P T B X n m a (Zej (ex P T B X n m b Q) Q) s
 | .cond c a b, Q, s => Zcx (s.ev c) (kCond (ex P T B X n m a Q) (ex P T B X n m b Q) s)
 | .block id b, Q, s => ex P T B X n m b (Zcj id Q) s
 | .exit id, Q, s => Q (.exit id) s
 | .ret, Q, s => Q .ret s
 | c, Q, s => LOOP P X c Q s
section
variable {P : Program} {T : Tab} {B : Book} {X : Ctx} {s : St}
theorem Rep.know {X : Ctx} {s : St} {a : Act} {w : World} {d : Nat} {b : Bool} (hd : envGet s.env d = .v (.bool b)) (hr : Rep X s a w) : Rep X ⟨(d, .v (.bool b)) :: s.env, s.heap⟩ a w := by
 obtain ⟨σ, F, hr⟩ := hr
 refine ⟨σ, F, hr.defers, hr.size, fun i => ?_, hr.heap, hr.keep, hr.own, hr.fnew, hr.stab, hr.hm⟩
 simp only [envGet]
 split
 ·rename_i e; subst e; rw [← hd]; exact hr.env i
 ·exact hr.env i
end
def Ret (T : Tab) (fn : Func) (m : Nat) (post : AV → List AObj → Prop) (s : St) : Prop :=
 match Z6j T s fn.results.toList with
 | some (c, xs) => c ∧ ∃ extra : List Nat, (List.range m ++ extra).Nodup ∧ (∀ i ∈ extra, i < s.heap.length) ∧ ∃ ret, AV.le ((retAV xs).sub (Z20 (List.range m ++ extra))) ret ∧ post ret (Z2a (List.range m ++ extra) s.heap)
 | none => False
def Qret (T : Tab) (fn : Func) (m : Nat) (post : AV → List AObj → Prop) : Exit → St → Prop
 | .normal, s => Ret T fn m post s
 | .ret, s => Ret T fn m post s
 | _, _ => False
def tabGet : List (Nat × TI) → Nat → Option TI
 | [], _ => none
 | (k, i) :: r, t => if t = k then some i else tabGet r t
theorem tabGet_mem : ∀ {l : List (Nat × TI)} {t : Nat} {i : TI}, tabGet l t = some i → (t, i) ∈ l
 | (k, j) :: r, t, i, h => by
  unfold tabGet at h
  split at h
  ·rename_i e; injection h with h; subst e h; exact List.mem_cons_self
  ·exact List.mem_cons_of_mem _ (tabGet_mem h)
theorem Zii {P : Program} {l : List (Nat × TI)} (h : ∀ p ∈ l, TIOk P p.1 p.2) : Zo P (tabGet l) := fun t i ht => h _ (tabGet_mem ht)
end Go.Proofs.YtplgphblmeceoaaGreatDoor.Eng
set_option linter.unusedVariables false
set_option linter.unusedSimpArgs false
namespace Go.Proofs.YtplgphblmeceoaaGreatDoor.Eng
open Go Go.RowKit
section
variable {P : Program} {ops : Array Oper} {Q : Exit → Act → World → Prop} {md : Region.Mode} {S : World → Prop}
def anyT (P : Program) (md : Region.Mode) (ops : Array Oper) (Q : Exit → Act → World → Prop) (n : Nat) (L : Array Bool → Act → World → Prop) : Nat → Array Bool → Act → World → (World → Prop) → Prop
 | 0, listed, a, w, _ => L listed a w
 | f + 1, listed, a, w, S =>
  Region.ready md ops listed ≠ [] ∧ ∀ i ∈ Region.ready md ops listed, i < n ∧ wpOp P ops Q i (fun a' w' => S w' ∧ anyT P md ops Q n L f (listed.setIfInBounds i true) a' w' S) a w
theorem Z8j {n : Nat} {L : Array Bool → Act → World → Prop} {S S' : World → Prop} (hS : ∀ w, S w → S' w) : ∀ (f : Nat) (listed : Array Bool) (a : Act) (w : World), anyT P md ops Q n L f listed a w S → anyT P md ops Q n L f listed a w S'
 | 0, _, _, _, h => h
 | f + 1, listed, a, w, h => ⟨h.1, fun i hi => ⟨(h.2 i hi).1, wpOp_mono (fun a' w' h' => ⟨hS _ h'.1, Z8j hS f _ a' w' h'.2⟩) (h.2 i hi).2⟩⟩
theorem Zam {n g : Nat} {L : Array Bool → Act → World → Prop} {S : World → Prop} (hL : ∀ listed a w, L listed a w → wpAny P md ops Q g listed a w) :
  ∀ (f : Nat) (listed : Array Bool) (a : Act) (w : World), anyT P md ops Q n L f listed a w S → wpAny P md ops Q (f + g) listed a w
 | 0, listed, a, w, h => by rw [Nat.zero_add]; exact hL _ _ _ h
 | f + 1, listed, a, w, h => by
  rw [show f + 1 + g = (f + g) + 1 by omega]
  exact ⟨fun h0 => absurd h0 h.1, fun i hi => wpOp_mono (fun a' w' h' => Zam hL f _ a' w' h'.2) (h.2 i hi).2⟩
def Z83 (md : Region.Mode) (ops : Array Oper) (n : Nat) : Bool := decide (n = ops.size) || (decide (n < ops.size) && Region.sinkB md ops n && Region.chainB md ops n)
theorem Z9c {n i : Nat} {listed : Array Bool} (h : Z83 md ops n = true) (inv : HeadInv md ops n listed) (hi : i < n) (hun : listed.getD i true = false) : ∀ j ∈ Region.ready md ops listed, j < n := by
 intro j hj
 simp only [Z83, Bool.or_eq_true, Bool.and_eq_true, decide_eq_true_eq] at h
 rcases h with h | ⟨⟨h1, h2⟩, h3⟩
 ·subst h
  obtain ⟨_, o, ho, _⟩ := mem_ready.1 hj
  exact (Array.getElem?_eq_some_iff.1 ho).1
 ·rcases Nat.lt_or_ge j n with h | h
  ·exact h
  ·exact absurd hj (tail_waits h2 h3 h1 inv _ i rfl hi hun j h)
theorem Z9k {n i : Nat} {oi : Oper} {v : Value} {L : Array Bool → Act → World → Prop} (hi : ops[i]? = some oi) (hsel : ∀ (j : Nat) (o : Oper) cs b, ops[j]? = some o → o.op ≠ .select cs b)
  (hh : Z83 md ops n = true) (hin : i < n) (hdone : ∀ listed a w, L listed a w → ∀ j ∈ Region.ready md ops listed, n ≤ j) (hQ : ∀ c a w, Q (.panic c) (a.put oi.dst v) w → Q (.panic c) a w) :
  ∀ (f : Nat) (listed : Array Bool) (a : Act) (w : World), HeadInv md ops n listed →
   (∀ j oj, ops[j]? = some oj → j ≠ i → listed.getD j true = false → (∀ e ∈ oj.after, Region.binds md e = true → e.on ≠ i) → oi.apart ops oj = true) →
   i ∈ Region.ready md ops listed → YieldsIf P ops S oi v a → S w →
   anyT P md ops Q n L f (listed.setIfInBounds i true) (a.put oi.dst v) w S → anyT P md ops Q n L (f + 1) listed a w S := by
 intro f
 induction f with
 | zero =>
  intro listed a w inv _ hr hy hS H
  have hun := (mem_ready.1 hr).1
  refine ⟨fun h => (by rw [h] at hr; cases hr), fun j hj => ?_⟩
  have hjn := Z9c hh inv hin hun j hj
  refine ⟨hjn, ?_⟩
  by_cases hji : j = i
  ·subst hji; exact hy.wpOp hi hS ⟨hS, H⟩
  ·have := hdone _ _ _ H j (ready_mono hj hji)
   omega
 | succ f ih =>
  intro listed a w inv hfree hr hy hS H
  have hun := (mem_ready.1 hr).1
  refine ⟨fun h => (by rw [h] at hr; cases hr), fun j hj => ?_⟩
  have hjn := Z9c hh inv hin hun j hj
  refine ⟨hjn, ?_⟩
  by_cases hji : j = i
  ·subst hji; exact hy.wpOp hi hS ⟨hS, H⟩
  ·have h1 := (H.2 j (ready_mono hj hji)).2
   obtain ⟨hjun, oj, hoj, hall⟩ := mem_ready.1 hj
   have hnot : ∀ e ∈ oj.after, Region.binds md e = true → e.on ≠ i := fun e he hb heq => by
    have h1 := hall e he hb
    rw [heq, getD_both hun] at h1
    cases h1
   have h2 := wpOp_putIf hoj (hfree j oj hoj hji hjun hnot) (fun cs b => hsel i oi cs b hi) (fun cs b => hsel j oj cs b hoj) hQ hy h1
   have hfree' : ∀ k ok, ops[k]? = some ok → k ≠ i → (listed.setIfInBounds j true).getD k true = false →
     (∀ e ∈ ok.after, Region.binds md e = true → e.on ≠ i) → oi.apart ops ok = true := fun k ok hk hki hun hno => by
    refine hfree k ok hk hki ?_ hno
    by_cases hjk : j = k
    ·subst hjk; exact hjun
    ·rw [getD_set_ne true hjk] at hun; exact hun
   refine wpOp_mono (fun a' w' h3 => ⟨h3.2.1, ih (listed.setIfInBounds j true) a' w' (inv.set hj hjn) hfree' (ready_mono hr (Ne.symm hji)) h3.1 h3.2.1 ?_⟩) h2
   rw [Array.setIfInBounds_comm _ _ hji]
   exact h3.2.2
end
def Z7h (ops : Array Oper) (n : Nat) : List (Nat × Bool) → Array Bool → Bool
 | [], listed => Region.seqB .any ops (ops.size - n) n listed
 | (i, true) :: r, listed => decide (i < n) && (Region.ready .any ops listed).contains i && Region.free .any ops listed i && Z7h ops n r (listed.setIfInBounds i true)
 | (i, false) :: r, listed => decide (i < n) && decide (Region.ready .any ops listed = [i]) && Z7h ops n r (listed.setIfInBounds i true)
def drawB (ops : Array Oper) (n : Nat) (l : List (Nat × Bool)) : Bool :=
 Region.noSelect ops && Z83 .any ops n && decide (l.length = n) && decide (n ≤ ops.size) && Z7h ops n l (Array.replicate ops.size false)
section
variable {P : Program} {T : Tab} {X : Ctx} {s : St}
def DrawJ (P : Program) (X : Ctx) (ops : Array Oper) (n : Nat) (rest : List (Nat × Bool)) (listed : Array Bool) (K : St → Prop) (s : St) : Prop :=
 ∀ (Qc : Exit → Act → World → Prop) a w, (∀ c a b w, Qc (.panic c) a w → Qc (.panic c) b w) → (∀ s' a' w', K s' → Rep X s' a' w' → Qc .normal a' w') → Rep X s a w → HeadInv .any ops n listed →
  anyT P .any ops Qc n (fun listed a w => Region.seqB .any ops (ops.size - n) n listed = true ∧ wpList P ops Qc (ops.toList.drop n) a w) rest.length listed a w (Grow w)
variable {ops : Array Oper} {n : Nat} {rest : List (Nat × Bool)} {listed : Array Bool} {K : St → Prop}
theorem DrawJ.nil (hw : Z7h ops n [] listed = true) (h : WPO P X ops (ops.toList.drop n) K s) : DrawJ P X ops n [] listed K s := by
 intro Qc a w hQ hK hr inv
 exact ⟨hw, h Qc a w hK hr⟩
theorem Zbd {listed : Array Bool} {a : Act} {w : World} {Qc : Exit → Act → World → Prop} (h : Region.seqB .any ops (ops.size - n) n listed = true ∧ wpList P ops Qc (ops.toList.drop n) a w) : ∀ j ∈ Region.ready .any ops listed, n ≤ j := seqB_ready h.1
theorem DrawJ.take {i : Nat} {o : Oper} (hi : ops[i]? = some o) (hs : Region.noSelect ops = true) (hh : Z83 .any ops n = true) (hin : i < n) (hr : (Region.ready .any ops listed).contains i = true) (hf : Region.free .any ops listed i = true)
  {x : AV} (hd : dOK X.n o.dst) (hy : ∀ σ F a w, RepAt X σ F s a w → ∃ v, YieldsIf P ops (Grow w) o v a ∧ RepV σ F w x v) (h : DrawJ P X ops n rest (listed.setIfInBounds i true) K (s.put o.dst x)) : DrawJ P X ops n ((i, true) :: rest) listed K s := by
 intro Qc a w hQ hK hrep inv
 obtain ⟨σ, F, hat⟩ := hrep
 obtain ⟨v, hv, hx⟩ := hy σ F a w hat
 have hr' : i ∈ Region.ready .any ops listed := by simpa using hr
 exact Z9k hi (Region.noSelect_spec hs) hh hin (fun _ _ _ h => Zbd h) (fun c a w h => hQ c _ _ w h) rest.length listed a w inv (Region.free_spec hi hf) hr' hv (Grow.refl w)
  (h Qc _ w hQ hK ⟨σ, F, hat.put hd hx⟩ (inv.set hr' hin))
theorem DrawJ.only {i : Nat} {o : Oper} (hi : ops[i]? = some o) (hin : i < n) (hr : Region.ready .any ops listed = [i])
  (h : ∀ (Qc : Exit → Act → World → Prop) (next : Act → World → Prop) a w, (∀ s' a' w', DrawJ P X ops n rest (listed.setIfInBounds i true) K s' → Rep X s' a' w' → Grow w w' → next a' w') → Rep X s a w →
   if Region.wanted o (yielded ops a.tmps) then o.wp P a w next Qc else next (a.put o.dst undef) w) : DrawJ P X ops n ((i, false) :: rest) listed K s := by
 intro Qc a w hQ hK hrep inv
 refine ⟨by rw [hr]; simp, fun j hj => ?_⟩
 rw [hr, List.mem_singleton] at hj
 subst hj
 refine ⟨hin, ?_⟩
 have hj' : j ∈ Region.ready .any ops listed := by rw [hr]; simp
 have h1 := h Qc (fun a' w' => Grow w w' ∧ anyT P .any ops Qc n (fun listed a w => Region.seqB .any ops (ops.size - n) n listed = true ∧ wpList P ops Qc (ops.toList.drop n) a w) rest.length (listed.setIfInBounds j true) a' w' (Grow w)) a w
  (fun s' a' w' hd hr' hg => ⟨hg, Z8j (fun w2 h2 => hg.trans h2) _ _ _ _ (hd Qc a' w' hQ hK hr' (inv.set hj' hin))⟩) hrep
 unfold wpOp
 simp only [hi]
 split
 ·rename_i hw; rw [if_pos hw] at h1; exact .inl h1
 ·rename_i hw; rw [if_neg hw] at h1; exact h1
theorem Rep.drawn {a : Act} {w : World} (h : Rep X s a w) : Rep X s a { w with drawn := w.drawn + 1 } := by
 obtain ⟨σ, F, hr⟩ := h
 exact ⟨σ, F, hr.ext (Ext.drew w)⟩
end
end Go.Proofs.YtplgphblmeceoaaGreatDoor.Eng
set_option linter.unusedVariables false
set_option linter.unusedSimpArgs false
namespace Go.Proofs.YtplgphblmeceoaaGreatDoor.Eng
open Go Go.RowKit
def nthOp : List Oper → Nat → Option Oper
 | [], _ => none
 | o :: _, 0 => some o
 | _ :: r, j + 1 => nthOp r j
theorem nthOp_eq : ∀ (l : List Oper) (j : Nat), nthOp l j = l[j]?
 | [], j => by simp [nthOp]
 | o :: r, 0 => by simp [nthOp]
 | o :: r, j + 1 => by simp [nthOp, nthOp_eq r j]
def Z88 {α : Type} : List α → Nat → List α
 | l, 0 => l
 | [], _ + 1 => []
 | _ :: r, j + 1 => Z88 r j
theorem Zag {α : Type} : ∀ (l : List α) (j : Nat), Z88 l j = l.drop j
 | l, 0 => by simp [Z88]
 | [], j + 1 => by simp [Z88]
 | o :: r, j + 1 => by simp [Z88, Zag r j]
@[irreducible] def OWEDG (P : Program) (X : Ctx) (o : Oper) (K : St → Prop) (s : St) : Prop := opWPG P X o K s
theorem OWEDG.intro {P : Program} {X : Ctx} {o : Oper} {K : St → Prop} {s : St} (h : opWPG P X o K s) : OWEDG P X o K s := by unfold OWEDG; exact h
section
variable {P : Program} {T : Tab} {B : Book} {X : Ctx} {s s' : St} {ops : Array Oper} {n : Nat} {rest : List (Nat × Bool)} {listed : Array Bool} {K : St → Prop}
theorem DrawJ.from (h : ∀ a w, Rep X s a w → Rep X s' a w) (k : DrawJ P X ops n rest listed K s') : DrawJ P X ops n rest listed K s :=
 fun Qc a w hQ hK hr inv => k Qc a w hQ hK (h a w hr) inv
theorem Z3b {j d : Nat} {b : Bool} (hj : (ops[j]?).bind (·.dst) = some d) (hn : d < X.n) (hd : envGet s.env d = .v (.bool b)) {a : Act} {w : World} (hr : Rep X s a w) : yielded ops a.tmps j = some b := by
 obtain ⟨σ, F, hr⟩ := hr
 have hv : a.tmps.getD d undef = .bool b := RepV.val (hd ▸ hr.env d)
 have hlt : d < a.tmps.size := by rw [hr.size]; exact hn
 have : a.tmps[d]? = some (.bool b) := by
  rw [Array.getElem?_eq_getElem hlt]
  rw [Array.getD_eq_getD_getElem?, Array.getElem?_eq_getElem hlt] at hv
  exact congrArg some hv
 simp [yielded, hj, this]
theorem OWEDG.run {o : Oper} (h : OWEDG P X o K s) : opWPG P X o K s := by unfold OWEDG at h; exact h
theorem opWPG.mono {o : Oper} {K K' : St → Prop} (h : opWPG P X o K s) (hk : ∀ s, K s → K' s) : opWPG P X o K' s :=
 fun Qc next a w hn hr => h Qc next a w (fun s' a' w' h1 h2 h3 => hn s' a' w' (hk _ h1) h2 h3) hr
end
end Go.Proofs.YtplgphblmeceoaaGreatDoor.Eng
set_option linter.unusedVariables false
set_option linter.unusedSimpArgs false
namespace Go.Proofs.YtplgphblmeceoaaGreatDoor.Eng
open Go Go.RowKit
def Z19 (n : Nat) : AV → AV
 | .own id sz off len => if id < n then .own id sz off len else .any
 | .ptr id i sz j => if id < n then .ptr id i sz j else .any
 | .nm id k => if id < n then .nm id k else .any
 | x => x
theorem Z82 (n id : Nat) : idx (List.range n) id = if id < n then some id else none := by
 split
 ·rename_i h
  cases hi : idx (List.range n) id with
  | none => exact absurd (List.mem_range.2 h) (idx_none hi)
  | some k =>
   have := idx_some hi
   rw [List.getElem?_range (by have := (List.getElem?_eq_some_iff.1 this).1; simpa using this)] at this
   exact this
 ·rename_i h
  cases hi : idx (List.range n) id with
  | none => rfl
  | some k =>
   have := List.mem_of_getElem? (idx_some hi)
   exact absurd (List.mem_range.1 this) h
theorem Zb0 (n : Nat) : Z19 n = Z20 (List.range n) := by
 funext x
 cases x with
 | own id sz off len => simp only [Z19, Z20, Z82]; split <;> rfl
 | ptr id i sz j => simp only [Z19, Z20, Z82]; split <;> rfl
 | nm id k => simp only [Z19, Z20, Z82]; split <;> rfl
 | _ => rfl
def St.trim (s : St) (n : Nat) : St := ⟨Z14 (Z19 n) s.env, (s.heap.take n).map (AObj.sub (Z19 n))⟩
theorem Rep.trim {X : Ctx} {s : St} {a : Act} {w : World} {n : Nat} (hm : X.m ≤ n) (hn : n ≤ s.heap.length) (h : Rep X s a w) : Rep X (s.trim n) a w := by
 obtain ⟨σ, F, hr⟩ := h
 have hsel : ∀ id, id < n → selσ (List.range n) σ id = σ id := fun id h => by simp [selσ, List.getElem?_range h]
 refine ⟨selσ (List.range n) σ, F, hr.defers, hr.size, fun i => ?_, ?_, hr.keep, fun id g h => ?_, hr.fnew, fun id hid => ?_, by simp [St.trim, hn, hm]⟩
 ·simp only [St.trim, Zr, Zb0]
  exact (hr.env i).sel
 ·have h1 := hr.heap.sel (keep := List.range n) List.nodup_range (fun i hi => Nat.lt_of_lt_of_le (List.mem_range.1 hi) hn)
  have h2 : (s.trim n).heap = Z2a (List.range n) s.heap := by
   simp only [St.trim, Zb0, Z2a]
   apply List.ext_getElem?
   intro i
   simp only [List.getElem?_map, List.getElem?_take]
   by_cases hi : i < n
   ·rw [if_pos hi, List.getElem?_range hi, List.getElem?_eq_getElem (Nat.lt_of_lt_of_le hi hn)]
    simp [List.getElem?_eq_getElem (Nat.lt_of_lt_of_le hi hn)]
   ·rw [if_neg hi, List.getElem?_eq_none (by simpa using hi)]
    rfl
  rw [h2]; exact h1
 ·obtain ⟨i, _, h1⟩ := Z3l h
  exact hr.own _ _ h1
 ·rw [hsel id (Nat.lt_of_lt_of_le hid hm)]
  exact hr.stab id hid
theorem AV.le_of_eq {x y : AV} (h : x = y) : AV.le x y := h ▸ .refl x
section
variable {P : Program} {T : Tab} {B : Book} {X : Ctx} {s : St} {Q : Exit → St → Prop} {c : Code} {n m : Nat}
theorem WP.from {s' : St} (h : ∀ a w, Rep X s a w → Rep X s' a w) (k : WP P X c Q s') : WP P X c Q s := fun a w hr => k a w (h a w hr)
def nilOwn (s : St) (d : Nat) (e sz : Nat) : St := ⟨(d, .own s.heap.length sz 0 0) :: s.env, s.heap ++ [.row e sz []]⟩
theorem Rep.nilOwn {a : Act} {w : World} {d e sz : Nat} (hd : envGet s.env d = .v (.slice none 0 0)) (h : Rep X s a w) : Rep X (Eng.nilOwn s d e sz) a w := by
 obtain ⟨σ, F, hr⟩ := h
 have hv : a.tmps.getD d undef = .slice none 0 0 := RepV.val (hd ▸ hr.env d)
 have h1 := hr.newNil e sz
 refine ⟨_, F, ⟨h1.defers, h1.size, fun i => ?_, h1.heap, h1.keep, h1.own, h1.fnew, h1.stab, h1.hm⟩⟩
 simp only [Eng.nilOwn, envGet]
 split
 ·rename_i e; subst e; rw [hv]; exact .own0 _ _ (Z7 _ _ _)
 ·exact h1.env i
end
def FPost (P : Program) (f : Nat) (args : List AV) (post : AV → Prop) : Prop := FSpec P f [] args (fun r h => post r ∧ h = [])
abbrev FPure (P : Program) (f : Nat) (args : List AV) (R : AV) : Prop := FPost P f args (fun r => r = R)
theorem WP.monoR {P : Program} {X : Ctx} {c : Code} {Q Q' : Exit → St → Prop} {s : St} (h : WP P X c Q s) (hq : ∀ e s, Q e s → ∃ s', (∀ a w, Rep X s a w → Rep X s' a w) ∧ Q' e s') : WP P X c Q' s :=
 fun a w hr => wpIn_mono (h a w hr) fun e a w ⟨s, h1, h2⟩ => let ⟨s', h3, h4⟩ := hq e s h1; ⟨s', h4, h3 a w h2⟩
theorem FSpec.of_WP' {P : Program} {T : Tab} (hT : Zo P T) {f : Nat} {fn : Func} {c : Code} (hf : P.funcs[f]? = some fn) (hb : fn.body = some c) {h0 : List AObj} {args : List AV} {post : AV → List AObj → Prop}
  (h : ∀ X : Ctx, X.n = args.length + (fn.ntmps - args.length) → X.m = h0.length → X.ro = none → X.rf = false → WP P X c (Qret T fn h0.length post) ⟨Z1c 0 args, h0⟩) : FSpec P f h0 args post := by
 intro σ F w vs hh hl hargs
 let X : Ctx := ⟨args.length + (fn.ntmps - args.length), w, ownB σ, F, h0.length, σ, none, false⟩
 refine calls_of_wp hf hb ?_
 have hrep : RepAt X σ F ⟨Z1c 0 args, h0⟩ { tmps := vs.toArray ++ Array.replicate (fn.ntmps - vs.toArray.size) undef, defers := [] } w := by
  refine ⟨rfl, by simp [X, hl], fun i => ?_, hh, Keep.refl _ _, fun id g h => .inl ⟨id, h⟩, fun b hb => .inl hb, fun id _ => .inl rfl, Nat.le_refl _⟩
  rw [envGet_enum, if_pos (Nat.zero_le _), Nat.sub_zero]
  cases hx : args[i]? with
  | none => exact .f _ _ (.any _)
  | some x =>
   have hlt : i < vs.length := by have := (List.getElem?_eq_some_iff.1 hx).1; omega
   have : (vs.toArray ++ Array.replicate (fn.ntmps - vs.toArray.size) undef).getD i undef = vs[i] := by
    rw [Array.getD_eq_getD_getElem?, Array.getElem?_append_left (by simpa using hlt)]
    simp [hlt]
   rw [this]
   exact hargs i x _ hx (List.getElem?_eq_getElem hlt)
 refine Code.wp_mono' ((WP.wide rfl).1 (h X rfl rfl rfl rfl _ _ ⟨σ, F, hrep⟩)) ?_
 have fin : ∀ s a w', Ret T fn h0.length post s → Rep X s a w' → a.defers = [] ∧ ∃ v, (results fn a.tmps).run P w' = .ok v w' ∧ ∃ ret h' σ' F' rv, post ret h' ∧ Ending.returned v = .returned rv ∧ RepV σ' F' w' ret rv ∧ HRep σ' F' w' h' ∧ Keep (ownB σ) w w' ∧
   (∀ id g, hasB σ' id g → ownB σ g ∨ w.heap.size ≤ g) ∧ (∀ b, F' b → F b ∨ ownB σ b ∨ w.heap.size ≤ b) ∧ (∀ id, id < h0.length → σ' id = σ id ∨ σ' id = none) ∧ h0.length ≤ h'.length := by
  rintro s a w' hret ⟨σ', F', hr⟩
  unfold Ret at hret
  split at hret
  ·rename_i c xs hres
   obtain ⟨hc, extra, hnd, hin, ret, hle, hpost⟩ := hret
   obtain ⟨v, hv, hrv⟩ := Z92 hT hr hres hc
   have hin' : ∀ i ∈ List.range h0.length ++ extra, i < s.heap.length := fun i hi => by
    rcases List.mem_append.1 hi with h1 | h1
    ·have := hr.hm; have h2 := List.mem_range.1 h1; exact Nat.lt_of_lt_of_le h2 this
    ·exact hin i h1
   refine ⟨hr.defers, v, hv, ret, _, selσ (List.range h0.length ++ extra) σ', F', v, hpost, rfl, RepV.le hle hrv.sel, hr.heap.sel hnd hin', hr.keep, fun id g hs => ?_, hr.fnew, fun id hid => ?_, by simp [Z2a]⟩
   ·obtain ⟨i, _, h1⟩ := Z3l hs
    exact hr.own _ _ h1
   ·have : selσ (List.range h0.length ++ extra) σ' id = σ' id := by
     simp [selσ, List.getElem?_append_left (show id < (List.range h0.length).length by simpa using hid), List.getElem?_range hid]
    rw [this]
    exact hr.stab id hid
  ·exact hret.elim
 rintro e a w' ⟨s, hq, hr⟩
 cases e with
 | normal => exact fin s a w' hq hr
 | ret => exact fin s a w' hq hr
 | _ => exact hq.elim
section
variable {P : Program} {T : Tab} {B : Book} {X : Ctx} {s : St} {o : Oper} {K : St → Prop}
end
end Go.Proofs.YtplgphblmeceoaaGreatDoor.Eng
set_option linter.unusedVariables false
namespace Go.Proofs.YtplgphblmeceoaaGreatDoor.Eng
open Go Go.RowKit
section
variable {P : Program} {T : Tab} {B : Book} {X : Ctx} {n m : Nat} {Q : Exit → St → Prop} {K : St → Prop} {v : List (Nat × AV)} {h : List AObj}
end
end Go.Proofs.YtplgphblmeceoaaGreatDoor.Eng
namespace Go.Proofs.YtplgphblmeceoaaGreatDoor.Eng
open Go Go.RowKit
end Go.Proofs.YtplgphblmeceoaaGreatDoor.Eng
namespace Go.Proofs.YtplgphblmeceoaaGreatDoor.Eng
open Go Go.RowKit
end Go.Proofs.YtplgphblmeceoaaGreatDoor.Eng
namespace Go.Proofs.YtplgphblmeceoaaGreatDoor.Eng
end Go.Proofs.YtplgphblmeceoaaGreatDoor.Eng
set_option linter.unusedVariables false
set_option linter.unusedSimpArgs false
namespace Go.Proofs.YtplgphblmeceoaaGreatDoor.Eng
open Go Go.RowKit
def Zae (T : Tab) (ft : Nat) : AV → AV → Option Bool
 | .v (.int k a), .v (.int k' b) => match T ft with
  | some ⟨.int _, 1, _, _⟩ => if k = k' then some (a == b) else none
  | _ => none
 | .v (.bool a), .v (.bool b) => match T ft with
  | some ⟨.bool, 1, _, _⟩ => some (a == b)
  | _ => none
 | .v (.string a), .v (.string b) => match T ft with
  | some ⟨.str, 1, _, _⟩ => some (a == b)
  | _ => none
 | _, _ => none
def Z4y (T : Tab) : List (Nat × Nat) → List AV → List AV → Option Bool
 | [], _, _ => some true
 | (off, ft) :: r, xs, ys => match Zae T ft ((xs[off]?).getD .any) ((ys[off]?).getD .any), Z4y T r xs ys with
  | some p, some q => some (p && q)
  | _, _ => none
def eqB (P : Program) (t : Nat) : Bool := !P.stoodInHeld t && !P.eqGuardType P.depth t && (P.fieldsOf t).toList.all (fun f => f.name != "_")
section
variable {P : Program} {T : Tab} {X : Ctx} {σ : Nat → Option Blk} {F : Nat → Prop} {s : St} {a : Act} {w : World} {o : Oper} {K : St → Prop}
theorem Zhi (hT : Zo P T) {ft : Nat} {u v : Value} {q : Bool} (h : Zae T ft (.v u) (.v v) = some q) (d : Nat) : (Op.equalIn (d + 1) ft u v).run P w = .ok q w := by
 unfold Zae at h
 split at h
 ·rename_i e1 e2
  cases e1; cases e2
  split at h
  ·rename_i ht
   split at h
   ·rename_i hk
    subst hk
    cases h
    simp [Op.equalIn, run_underlying (hT _ _ ht).kind]
   ·cases h
  ·cases h
 ·rename_i e1 e2
  cases e1; cases e2
  split at h
  ·rename_i ht
   cases h
   simp [Op.equalIn, run_underlying (hT _ _ ht).kind]
  ·cases h
 ·rename_i e1 e2
  cases e1; cases e2
  split at h
  ·rename_i ht
   cases h
   simp [Op.equalIn, run_underlying (hT _ _ ht).kind]
  ·cases h
 ·cases h
theorem eqOne_v {ft : Nat} {x y : AV} {q : Bool} (h : Zae T ft x y = some q) : (∃ u, x = .v u) ∧ (∃ v, y = .v v) ∧ ∃ i, T ft = some i ∧ i.size = 1 ∧ i.k.agg = false := by
 unfold Zae at h
 split at h
 ·split at h
  ·rename_i ht; exact ⟨⟨_, rfl⟩, ⟨_, rfl⟩, _, ht, rfl, rfl⟩
  ·cases h
 ·split at h
  ·rename_i ht; exact ⟨⟨_, rfl⟩, ⟨_, rfl⟩, _, ht, rfl, rfl⟩
  ·cases h
 ·split at h
  ·rename_i ht; exact ⟨⟨_, rfl⟩, ⟨_, rfl⟩, _, ht, rfl, rfl⟩
  ·cases h
 ·cases h
theorem Z6q (hT : Zo P T) {xs ys : List AV} {us vs : List Value} (hx : ∀ (j : Nat) (u : Value), xs[j]? = some (.v u) → us[j]? = some u) (hy : ∀ (j : Nat) (u : Value), ys[j]? = some (.v u) → vs[j]? = some u) (d : Nat) :
  ∀ (fl : List Field) (q : Bool), fl.all (fun f => f.name != "_") = true → Z4y T (fl.map fun f => (f.offset, f.type)) xs ys = some q → (Op.eqFields (d + 1) us.toArray vs.toArray fl).run P w = .ok q w
 | [], q, hn, h => by simp [Z4y] at h; subst h; simp [Op.eqFields]
 | f :: fl, q, hn, h => by
  simp only [List.map_cons, Z4y] at h
  split at h
  ·rename_i p r hp hr
   cases h
   simp only [List.all_cons, Bool.and_eq_true] at hn
   obtain ⟨⟨u, hu⟩, ⟨v, hv⟩, i, hi, h1, h2⟩ := eqOne_v hp
   have hgx : us[f.offset]? = some u := by
    cases hq : xs[f.offset]? with
    | none => rw [hq] at hu; cases hu
    | some z => rw [hq] at hu; simp at hu; subst hu; exact hx _ _ hq
   have hgy : vs[f.offset]? = some v := by
    cases hq : ys[f.offset]? with
    | none => rw [hq] at hv; cases hv
    | some z => rw [hq] at hv; simp at hv; subst hv; exact hy _ _ hq
   have hpx : (part f.type us.toArray f.offset).run P w = .ok u w := by simp [part, (hT _ _ hi).agg_run, h2, hgx]
   have hpy : (part f.type vs.toArray f.offset).run P w = .ok v w := by simp [part, (hT _ _ hi).agg_run, h2, hgy]
   rw [hu, hv] at hp
   have hn' : f.name ≠ "_" := by simpa using hn.1
   have ih := Z6q hT hx hy d fl r hn.2 hr
   rw [Op.eqFields]
   simp only [if_pos hn', Sem.run_bind, hpx, hpy, Zhi hT hp d, Result.andThen_ok]
   cases p
   ·simp
   ·simpa using ih
  ·cases h
theorem op_ifc {op : BinOp} {t t' : Nat} {y : Operand} {b : Bool} (hop : eqOp op = some b) (ho : o.op = .binOp op t y (.const .nilIface) t') {ms : Array (String × TypeId)} (hu : P.underlying t = some (.interface ms)) (hy : s.ev y = .v .nilIface) (hd : dOK X.n o.dst) (hK : K (s.put o.dst (.v (.bool (!b))))) : opWP P X o K s := by
 rintro Qc next a w hn ⟨σ, F, hr⟩
 have hvy : a.eval y = .nilIface := RepV.val (hy ▸ hr.ev y)
 have hvz : a.eval (.const .nilIface) = .nilIface := rfl
 have hq : (Op.equal t .nilIface .nilIface).run P w = .ok true w := by
  have h4 : ∀ d, (Op.equalIn (d + 1) t .nilIface .nilIface).run P w = .ok true w := fun d => by simp [Op.equalIn, run_underlying hu]
  exact h4 9999
 have hg : ∀ op : BinOp, (eqGuard op t y (.const .nilIface) .nilIface .nilIface).run P w = .ok () w := fun op => by
  cases op <;> simp [eqGuard]
 have hg := hg op
 have hex : (execOp a.eval o).run P w = .ok (.value (.bool (!b))) w := by
  unfold eqOp at hop
  split at hop
  ·rename_i e; subst e; cases hop
   simp only [execOp, ho, hvy, hvz, Sem.run_bind, hg, Result.andThen_ok, binOp, hq, Sem.run_pure]
   rfl
  ·split at hop
   ·rename_i e; subst e; cases hop
    simp only [execOp, ho, hvy, hvz, Sem.run_bind, hg, Result.andThen_ok, binOp, hq, Sem.run_pure]
   ·cases hop
 unfold Oper.wp
 rw [hex]
 exact hn _ _ _ hK ⟨σ, F, hr.put hd (.f _ _ (.v _))⟩
theorem op_eqs (hT : Zo P T) {op : BinOp} {t t' : Nat} {y z : Operand} {b : Bool} (hop : eqOp op = some b) (ho : o.op = .binOp op t y z t') {fs : List (Nat × Nat)} {n m : Nat} {zv : Value} (ht : T t = some ⟨.struct fs, n, m, zv⟩) (hE : eqB P t = true) {xs ys : List AV} (hx : s.ev y = .agg xs) (hy : s.ev z = .agg ys)
  {q : Bool} (he : Z4y T fs xs ys = some q) (hd : dOK X.n o.dst) (hK : K (s.put o.dst (.v (.bool (q != b))))) : opWP P X o K s := by
 rintro Qc next a w hn ⟨σ, F, hr⟩
 obtain ⟨us, hu, hul, _, huc⟩ := RepV.aggv (hx ▸ hr.ev y)
 obtain ⟨vs, hv, hvl, _, hvc⟩ := RepV.aggv (hy ▸ hr.ev z)
 obtain ⟨ar, hur, hm⟩ := (hT _ _ ht).kind
 subst hm
 simp only [eqB, Bool.and_eq_true, Bool.not_eq_true'] at hE
 obtain ⟨⟨h1, h2⟩, h3⟩ := hE
 have hf : P.fieldsOf t = ar := by simp [Program.fieldsOf, hur]
 have get : ∀ {xs : List AV} {us : List Value}, xs.length = us.length → (∀ (j : Nat) (x : AV) (u : Value), xs[j]? = some x → us[j]? = some u → RepV σ F w x u) → ∀ (j : Nat) (u : Value), xs[j]? = some (.v u) → us[j]? = some u := fun {xs us} hl hc j u hj => by
  have hlt : j < us.length := by have := (List.getElem?_eq_some_iff.1 hj).1; omega
  rw [List.getElem?_eq_getElem hlt]
  exact congrArg some (RepV.val (hc j _ _ hj (List.getElem?_eq_getElem hlt)))
 have hrun : (Op.equal t (.agg us.toArray) (.agg vs.toArray)).run P w = .ok q w := by
  have h4 : ∀ d, (Op.equalIn (d + 1 + 1) t (.agg us.toArray) (.agg vs.toArray)).run P w = .ok q w := fun d => by
   rw [run_equalIn_struct (P := P) (w := w) _ _ _ _ (by rw [hf]; exact hur) h1, hf]
   exact Z6q hT (get hul huc) (get hvl hvc) d ar.toList q (by rw [← hf]; exact h3) he
  exact h4 9998
 have hg0 : ∀ op : BinOp, (eqGuard op t y z (.agg us.toArray) (.agg vs.toArray)).run P w = .ok () w := fun op => by
  cases op <;> simp [eqGuard, h2]
 have hg := hg0 op
 have hex : (execOp a.eval o).run P w = .ok (.value (.bool (q != b))) w := by
  unfold eqOp at hop
  split at hop
  ·rename_i e; subst e; cases hop
   simp only [execOp, ho, hu, hv, Sem.run_bind, hg, Result.andThen_ok, binOp, hrun, Sem.run_pure]
   simp
  ·split at hop
   ·rename_i e; subst e; cases hop
    simp only [execOp, ho, hu, hv, Sem.run_bind, hg, Result.andThen_ok, binOp, hrun, Sem.run_pure]
    simp
   ·cases hop
 unfold Oper.wp
 rw [hex]
 exact hn _ _ _ hK ⟨σ, F, hr.put hd (.f _ _ (.v _))⟩
end
end Go.Proofs.YtplgphblmeceoaaGreatDoor.Eng
set_option linter.unusedVariables false
set_option linter.unusedSimpArgs false
namespace Go.Proofs.YtplgphblmeceoaaGreatDoor.Eng
open Go Go.RowKit
theorem beqB (a b : ByteArray) : (a == b) = decide (a = b) := by
 rw [Bool.eq_iff_iff, MapKept.bytes_beq]; simp
theorem Z4h (b : ByteArray) : ∀ (l : List MapEntry) (es : List (ByteArray × Value)) (i : Nat), l.map Z40 = es.map pairK →
  (Instr.findNow .string (.string b) l i = some none ∧ Zz b es = none ∧ ∀ v, Z7s b v es = es ++ [(b, v)]) ∨
  ∃ j e, Instr.findNow .string (.string b) l i = some (some (i + j, e.val)) ∧ Zz b es = some e.val ∧ l[j]? = some e ∧ e.key = .string b ∧ ∀ v, (l.modify j fun e => { e with key := .string b, val := v }).map Z40 = (Z7s b v es).map pairK
 | [], [], i, _ => .inl ⟨rfl, rfl, fun v => rfl⟩
 | [], p :: es, i, h => by simp at h
 | e :: l, [], i, h => by simp at h
 | e :: l, p :: es, i, h => by
  simp only [List.map_cons, List.cons.injEq] at h
  obtain ⟨h1, h2⟩ := h
  have hk : e.key = .string p.1 := congrArg Prod.fst h1
  have hv : e.val = p.2 := congrArg Prod.snd h1
  have hs : Instr.sameNow .string (.string b) e.key = some (decide (b = p.1)) := by rw [hk]; simp only [Instr.sameNow, beqB]
  simp only [Instr.findNow, hs, Zz, Z7s]
  cases hd : decide (b = p.1) with
  | true =>
   have hb := of_decide_eq_true hd
   exact .inr ⟨0, e, rfl, by simp [hv], rfl, by rw [hk, hb], fun v => by simp [Z40, pairK, h2]⟩
  | false =>
   rcases Z4h b l es (i + 1) h2 with ⟨h3, h4, h5⟩ | ⟨j, e', h3, h4, h5, h6, h7⟩
   ·exact .inl ⟨h3, h4, fun v => by simp [h5]⟩
   ·refine .inr ⟨j + 1, e', ?_, h4, by simpa using h5, h6, fun v => ?_⟩
    ·simp only [h3]; congr 3; omega
    ·simp only [List.modify_succ_cons, List.map_cons, h7, h1]
def Z52 (v : Value) : AV := match v with
 | .agg vs => (match vs.toList.all Value.oneCell' with
  | true => .agg (vs.toList.map AV.v)
  | false => .v v)
 | _ => .v v
def lkAV (ok : Bool) (q : Option Value) (z : Value) : AV := match ok with
 | true => .tup [Z52 (q.getD z), .v (.bool q.isSome)]
 | false => Z52 (q.getD z)
section
variable {P : Program} {T : Tab} {X : Ctx} {σ σ' : Nat → Option Blk} {F F' : Nat → Prop} {s s' : St} {a : Act} {w w' : World} {o : Oper} {c : Prop} {x : AV} {v : Value} {K : St → Prop}
theorem Zd9 {t : Nat} (ho : o.op = .makeMap t none) (hd : dOK X.n o.dst)
  (hK : K (St.put { s with heap := s.heap ++ [.mapo []] } o.dst (.nm s.heap.length []))) : opWPG P X o K s := by
 refine opWPG.mem (fun σ F a w hr => ?_) hd
 refine ⟨.map (some w.heap.size), w.alloc (.map #[] 0), _, F, _, _, ?_, Grow.alloc w _, (hr.ext (Ext.alloc w (.map #[] 0))).new (k := .ext (fun h => h = w.heap.size) fun _ => .map (some w.heap.size)) (ob := .mapo []) ?_ (fun g hg => ?_), ?_, hK⟩
 ·simp only [execOp, ho, Option.map_none, Sem.run_bind, run_makeMap, Result.andThen_ok]
  rfl
 ·exact ⟨w.heap.size, #[], 0, Z7 _ _ _, heap_alloc_new w _, .nil⟩
 ·have e1 : g = w.heap.size := hg
  subst e1
  refine ⟨by simp, fun hF => ?_, hr.keep.size, fun id h => ?_⟩
  ·have := hr.heap.flt _ hF; omega
  ·have := (hr.heap.lt _ _ h).1; omega
 ·exact .nm s.heap.length [] _ _ (Z7 _ _ _) rfl
theorem Zk4 (hr : RepAt X σ F s a w) {y : Operand} {id : Nat} {k : List Nat} (hy : s.ev y = .nm id k) {es : List (ByteArray × Value)} (hq : s.heap[id]? = some (.mapo es)) :
  ∃ g arr clock, σ id = some (.ext (fun h => h = g) fun _ => .map (some g)) ∧ a.eval y = .map (some g) ∧ w.heap[g]? = some (.map arr clock) ∧ MapIs arr clock es := by
 obtain ⟨g, arr, clock, h1, h2, h3⟩ := hr.heap.obj id _ hq
 obtain ⟨gs, V, h4, h5⟩ := RepV.nmv (hy ▸ hr.ev y)
 rw [h1] at h4
 cases h4
 exact ⟨g, arr, clock, h1, h5, h2, h3⟩
theorem RepV.tup2 (x y : Value) : RepV σ F w (.tup [.v x, .v y]) (.tuple #[x, y]) := by
 refine .tup _ [x, y] rfl (fun j a b ha hb => ?_)
 match j with
 | 0 => simp at ha hb; subst ha hb; exact .f _ _ (.v _)
 | 1 => simp at ha hb; subst ha hb; exact .f _ _ (.v _)
 | j + 2 => simp at ha
theorem RepV.vAV (v : Value) : RepV σ F w (Z52 v) v := by
 unfold Z52
 split
 ·rename_i vs
  split
  ·rename_i h
   rw [List.all_eq_true] at h
   have h2 : RepV σ F w (.agg (vs.toList.map AV.v)) (.agg vs.toList.toArray) := .agg _ vs.toList (by simp) h (fun j x u hx hu => by
    rw [List.getElem?_map, hu] at hx
    cases hx
    exact .f _ _ (.v _))
   simpa using h2
  ·exact .f _ _ (.v _)
 ·exact .f _ _ (.v _)
theorem RepV.ofValAV {v y : Value} (h : RepV σ F w (Z52 v) y) : y = v := by
 unfold Z52 at h
 split at h
 ·rename_i vs
  split at h
  ·have key : ∀ us : List Value, us.length = vs.toList.length → (∀ (j : Nat) (u u' : Value), vs.toList[j]? = some u → us[j]? = some u' → u' = u) → us = vs.toList := fun us hl hj => by
    apply List.ext_getElem hl
    intro j h1 h2
    exact hj j _ _ (List.getElem?_eq_getElem h2) (List.getElem?_eq_getElem h1)
   cases h with
   | agg _ us hl h1 h2 =>
    rw [key us (by simpa using hl.symm) (fun j u u' hu hu' => RepV.val (h2 j (.v u) u' (by rw [List.getElem?_map, hu]; rfl) hu'))]
   | f _ _ h => cases h
  ·exact RepV.val h
 ·exact RepV.val h
theorem RepV.tup2' (x y : Value) : RepV σ F w (.tup [Z52 x, .v y]) (.tuple #[x, y]) := by
 refine .tup _ [x, y] rfl (fun j a b ha hb => ?_)
 match j with
 | 0 => simp at ha hb; subst ha hb; exact RepV.vAV _
 | 1 => simp at ha hb; subst ha hb; exact .f _ _ (.v _)
 | j + 2 => simp at ha
theorem Zez {t kt et : Nat} {y z : Operand} {ok : Bool} (ho : o.op = .lookup t y z ok) (hm : P.underlying t = some (.map kt et)) (hkt : P.underlying kt = some .string) {i : TI} (hi : TIOk P et i)
  {id : Nat} {k : List Nat} (hy : s.ev y = .nm id k) {b : ByteArray} (hz : s.ev z = .v (.string b)) {es : List (ByteArray × Value)} (hq : s.heap[id]? = some (.mapo es)) (hd : dOK X.n o.dst)
  (hK : K (s.put o.dst (lkAV ok (Zz b es) i.zero))) : opWPG P X o K s := by
 refine opWPG.val (fun σ F a w hr => ?_) hd hK
 obtain ⟨g, arr, clock, h1, h2, h3, hmi⟩ := Zk4 hr hy hq
 obtain ⟨⟨es0, h4, hp0⟩, hup, _, _⟩ := hmi
 rw [← Z97 hp0 hup.nodup]
 have hz' : a.eval z = .string b := RepV.val (hz ▸ hr.ev z)
 have hck := MapKept.run_checkKey (P := P) (w := w) (k := .string b) hkt trivial arr.isEmpty 9999
 have hzr := fun w => (hi.zero_run : (zeroValue et).run P w = _)
 rcases Z4h b arr.toList es0 0 h4 with ⟨h5, h6, _⟩ | ⟨j, e, h5, h6, _⟩
 ·have hf := MapKept.run_findKey (P := P) (w := w) hkt h5
  cases ok
  ·refine ⟨i.zero, ?_, by rw [h6]; exact RepV.vAV _⟩
   simp [execOp, ho, h2, hz', Instr.lookup, run_underlying hm, MapKept.run_getObj_map h3, hck, hf, hzr, Sem.run_bind, Result.andThen]
  ·refine ⟨.tuple #[i.zero, .bool false], ?_, by rw [h6]; exact RepV.tup2' _ _⟩
   simp [execOp, ho, h2, hz', Instr.lookup, run_underlying hm, MapKept.run_getObj_map h3, hck, hf, hzr, Sem.run_bind, Result.andThen]
 ·have hf := MapKept.run_findKey (P := P) (w := w) hkt h5
  cases ok
  ·refine ⟨e.val, ?_, by rw [h6]; exact RepV.vAV _⟩
   simp [execOp, ho, h2, hz', Instr.lookup, run_underlying hm, MapKept.run_getObj_map h3, hck, hf, hzr, Sem.run_bind, Result.andThen]
  ·refine ⟨.tuple #[e.val, .bool true], ?_, by rw [h6]; exact RepV.tup2' _ _⟩
   simp [execOp, ho, h2, hz', Instr.lookup, run_underlying hm, MapKept.run_getObj_map h3, hck, hf, hzr, Sem.run_bind, Result.andThen]
theorem RepF.mpv {es : List (ByteArray × Value)} (h : RepF F w (.mp es) v) : (es = [] ∧ v = .map none) ∨ ∃ g arr clock, v = .map (some g) ∧ w.heap[g]? = some (.map arr clock) ∧ MapIs arr clock es := by
 cases h with
 | mp0 => exact .inl ⟨rfl, rfl⟩
 | mp _ g arr clock hF hg hm => exact .inr ⟨g, arr, clock, rfl, hg, hm⟩
theorem Zf0 {t kt et : Nat} {y z : Operand} {ok : Bool} (ho : o.op = .lookup t y z ok) (hm : P.underlying t = some (.map kt et)) (hkt : P.underlying kt = some .string) {i : TI} (hi : TIOk P et i)
  {es : List (ByteArray × Value)} (hy : s.ev y = .mp es) {b : ByteArray} (hz : s.ev z = .v (.string b)) (hd : dOK X.n o.dst)
  (hK : K (s.put o.dst (lkAV ok (Zz b es) i.zero))) : opWPG P X o K s := by
 refine opWPG.val (fun σ F a w hr => ?_) hd hK
 have hz' : a.eval z = .string b := RepV.val (hz ▸ hr.ev z)
 have hzr := fun w => (hi.zero_run : (zeroValue et).run P w = _)
 have hyv : RepF F w (.mp es) (a.eval y) := (hy ▸ hr.ev y).toF rfl
 rcases RepF.mpv hyv with ⟨rfl, h2⟩ | ⟨g, arr, clock, h2, h3, hmi⟩
 ·have hck := MapKept.run_checkKey (P := P) (w := w) (k := .string b) hkt trivial true 9999
  have hf0 : (Instr.findKey kt (.string b) []).run P w = .ok none w := by
   have := MapKept.run_findKey (P := P) (w := w) (k := .string b) (l := []) (a := none) hkt (by rfl)
   exact this
  cases ok
  ·refine ⟨i.zero, ?_, RepV.vAV _⟩
   simp [execOp, ho, h2, hz', hf0, Instr.lookup, run_underlying hm, hck, hzr, Sem.run_bind, Result.andThen]
  ·refine ⟨.tuple #[i.zero, .bool false], ?_, RepV.tup2' _ _⟩
   simp [execOp, ho, h2, hz', hf0, Instr.lookup, run_underlying hm, hck, hzr, Sem.run_bind, Result.andThen]
 ·obtain ⟨⟨es0, h4, hp0⟩, hup, _, _⟩ := hmi
  rw [← Z97 hp0 hup.nodup]
  have hck := MapKept.run_checkKey (P := P) (w := w) (k := .string b) hkt trivial arr.isEmpty 9999
  rcases Z4h b arr.toList es0 0 h4 with ⟨h5, h6, _⟩ | ⟨j, e, h5, h6, _⟩
  ·have hf := MapKept.run_findKey (P := P) (w := w) hkt h5
   cases ok
   ·refine ⟨i.zero, ?_, by rw [h6]; exact RepV.vAV _⟩
    simp [execOp, ho, h2, hz', Instr.lookup, run_underlying hm, MapKept.run_getObj_map h3, hck, hf, hzr, Sem.run_bind, Result.andThen]
   ·refine ⟨.tuple #[i.zero, .bool false], ?_, by rw [h6]; exact RepV.tup2' _ _⟩
    simp [execOp, ho, h2, hz', Instr.lookup, run_underlying hm, MapKept.run_getObj_map h3, hck, hf, hzr, Sem.run_bind, Result.andThen]
  ·have hf := MapKept.run_findKey (P := P) (w := w) hkt h5
   cases ok
   ·refine ⟨e.val, ?_, by rw [h6]; exact RepV.vAV _⟩
    simp [execOp, ho, h2, hz', Instr.lookup, run_underlying hm, MapKept.run_getObj_map h3, hck, hf, hzr, Sem.run_bind, Result.andThen]
   ·refine ⟨.tuple #[e.val, .bool true], ?_, by rw [h6]; exact RepV.tup2' _ _⟩
    simp [execOp, ho, h2, hz', Instr.lookup, run_underlying hm, MapKept.run_getObj_map h3, hck, hf, hzr, Sem.run_bind, Result.andThen]
theorem Zgd {t : Nat} {y : Operand} {args ts : Array _} (ho : o.op = .call { callee := .builtin .cap, args := args, argTypes := ts }) (ha : args.toList = [y]) (ht : ts.toList = [t]) {e : Nat} (hu : P.underlying t = some (.slice e)) (hy : s.ev y = .v (.slice none 0 0)) (hd : dOK X.n o.dst)
  (hK : K (s.put o.dst (.v (.int .i64 0)))) : opWPG P X o K s := by
 have ha' : args = #[y] := by rw [← Array.toArray_toList (xs := args), ha]
 have ht' : ts = #[t] := by rw [← Array.toArray_toList (xs := ts), ht]
 subst ha' ht'
 refine opWPG.val (fun σ F a w hr => ⟨.int .i64 0, ?_, .f _ _ (.v _)⟩) hd hK
 have he : a.eval y = .slice none 0 0 := RepV.val (hy ▸ hr.ev y)
 simp [execOp, ho, resolve, invoke, builtin, Builtin.cap_, run_underlying hu, he, goInt]
theorem Zd8 (hT : Zo P T) {t e : Nat} {y : Operand} {lo hi : Option Operand} (ho : o.op = .slice t y lo hi none) (hy : s.ev y = .v (.slice none 0 0)) {m p : Nat} {z : Value} (ht : T t = some ⟨.slice e, m, p, z⟩)
  {ti : TI} (hti : T e = some ti) {l h : Nat} (hb : bnds (lo.map s.ev) (hi.map s.ev) 0 = some (c, l, h)) (hc : c) (hd : dOK X.n o.dst)
  (hK : K (s.put o.dst (.v (.slice none 0 0)))) : opWPG P X o K s := by
 refine opWPG.val (fun σ F a w hr => ⟨.slice none 0 0, ?_, .f _ _ (.v _)⟩) hd hK
 have he : a.eval y = .slice none 0 0 := RepV.val (hy ▸ hr.ev y)
 obtain ⟨h1, h2, hrun⟩ := Z1k (P := P) hr hb hc true 0 (Nat.le_refl _)
 obtain rfl : h = 0 := by omega
 obtain rfl : l = 0 := by omega
 simp [execOp, ho, he, Z3x hT ht hti none 0 0 0 0 (hrun w)]
theorem Z6w {t t' e ty : Nat} (hu : P.underlying t = some (.slice e)) {k0 : IntKind} (hd : P.underlying t' = some (.int k0)) {i : TI} (hz : TIOk P e i) (hb : 0 < i.bytes) (hsz : 0 < i.size) {n : Int} {k : IntKind} (h0 : 0 < n) (hfit : n * i.bytes ≤ 140737488355328) :
  (Builtin.append_ #[t, t'] ty #[.slice none 0 0, .int k n]).run P w = .ok (.slice (some ⟨w.heap.size, 0, none⟩) n.toNat (grownCap w n.toNat 0 e))
   (w.drew.alloc (.cells (Builtin.zeroCells i.zero.cells n.toNat ++ Builtin.zeroCells i.zero.cells (grownCap w n.toNat 0 e - n.toNat)) e)) := by
 obtain ⟨q, hq, h1, h2, h3⟩ := hz.bytes_run (w := w)
 obtain ⟨q', hq', h1', h2', h3'⟩ := hz.bytes_run (w := w.drew)
 have hn1 : n ≤ 140737488355328 := by
  have : n * 1 ≤ n * (i.bytes : Int) := Int.mul_le_mul_of_nonneg_left (by omega) (by omega)
  omega
 have hwrap : IntKind.i64.wrap n = n := IntWalk.i64_in n (by omega)
 have hn : ¬ (n.toNat ≤ 0) := by omega
 have hfitN : (0 + n.toNat) * i.bytes ≤ 140737488355328 := by
  have : ((n.toNat * i.bytes : Nat) : Int) = n * i.bytes := by rw [Int.natCast_mul, Int.toNat_of_nonneg (by omega)]
  rw [Nat.zero_add]; omega
 have h48 : ¬ (281474976710656 < Builtin.nextslicecap n.toNat 0 * i.bytes) := by
  have := growslice_fits (need := 0 + n.toNat) (old := 0) (bytes := i.bytes) (by omega) hfitN
  rw [Nat.zero_add] at this
  omega
 have hbl : ¬ (281474976710656 < n * (i.bytes : Int)) := by omega
 have hb' : ¬ i.bytes = 0 := by omega
 have hmax : ¬ ((n.toNat : Int) > IntKind.i64.max) := by
  have : IntKind.i64.max = 9223372036854775807 := rfl
  omega
 have hns : ¬ (n.toNat * i.size = 0) := by
  intro h
  rcases Nat.mul_eq_zero.1 h with h | h <;> omega
 have hmark : ∀ b : Nat, (askRoom b).run P w.drew = .ok () w.drew := fun b => by unfold askRoom; split <;> simp [mark, Sem.run]
 have hfc : (Builtin.firstCells i.size 0 (.slice none 0 0)).run P w.drew = .ok #[] w.drew := by simp [Builtin.firstCells, Sem.run]
 simp [Builtin.append_, run_underlying hu, run_underlying hd, hz.size_run, asInt, asIntOf, hwrap, show ¬ n < 0 by omega, show ¬ n ≤ 0 by omega, show ¬ (9223372036854775807 < max n 0) by omega, hq, h1, hbl, hn, hmax, hb', h48, Question.forced, hmark, hfc, hz.zero_run, hns, newRow, newObj, Sem.run, grownCap, hq', h1', Result.andThen]
 rfl
theorem Z8q {t t' e : Nat} {y z : Operand} (ho : o.op = .call { callee := .builtin .append, args := #[y, z], argTypes := #[t, t'] }) (hT : Zo P T) {m p : Nat} {zv : Value} (ht : T t = some ⟨.slice e, m, p, zv⟩) {ti : TI} (hti : T e = some ti)
  {k0 : IntKind} {m' p' : Nat} {z' : Value} (ht' : T t' = some ⟨.int k0, m', p', z'⟩) (hy : s.ev y = .v (.slice none 0 0)) {k : IntKind} {n : Int} (hz : s.ev z = .v (.int k n)) (hsz : 0 < ti.size) (hby : 0 < ti.bytes) (h0 : 0 < n) (hfit : n * ti.bytes ≤ 140737488355328) (hd : dOK X.n o.dst)
  (hK : K (St.put { s with heap := s.heap ++ [.row e ti.size (List.replicate n.toNat (ti.zero.cells.toList.map .v))] } o.dst (.own s.heap.length ti.size 0 n.toNat))) : opWPG P X o K s := by
 refine opWPG.mem (fun σ F a w hr => ?_) hd
 have hzt := hT _ _ hti
 have hv : a.eval y = .slice none 0 0 := RepV.val (hy ▸ hr.ev y)
 have hv2 : a.eval z = .int k n := RepV.val (hz ▸ hr.ev z)
 have hr1 := Z6w (P := P) (w := w) (t := t) (t' := t') (ty := o.type) (hT _ _ ht).kind (hT _ _ ht').kind hzt hby hsz h0 hfit (k := k)
 have hn1 : n ≤ 140737488355328 := by
  have : n * 1 ≤ n * (ti.bytes : Int) := Int.mul_le_mul_of_nonneg_left (by omega) (by omega)
  omega
 have hge := grownCap_ge w n.toNat 0 e
 have hcm := grownCap_le_maxLen w n.toNat 0 e (by simp only [maxLen]; omega)
 let cur : Array Value := Builtin.zeroCells ti.zero.cells n.toNat ++ Builtin.zeroCells ti.zero.cells (grownCap w n.toNat 0 e - n.toNat)
 have hcs : cur.size = (0 + grownCap w n.toNat 0 e) * ti.size := by
  simp only [cur, Array.size_append, size_zeroCells, hzt.cells, ← Nat.add_mul]
  congr 1; omega
 have hrep : ∀ (w' : World) (i : Nat) (cs : List AV) (j : Nat) (x : AV), (List.replicate n.toNat (ti.zero.cells.toList.map AV.v))[i]? = some cs → cs[j]? = some x → ∃ u, cur[(0 + i) * ti.size + j]? = some u ∧ u.oneCell' = true ∧ RepF F w' x u := fun w' i cs j x hi hj => by
  have hi' : i < n.toNat := by have := (List.getElem?_eq_some_iff.1 hi).1; simpa using this
  rw [List.getElem?_replicate, if_pos hi'] at hi
  injection hi with hi
  subst hi
  rw [List.getElem?_map, Option.map_eq_some_iff] at hj
  obtain ⟨u, hu', rfl⟩ := hj
  have hj' : j < ti.size := by have := (List.getElem?_eq_some_iff.1 hu').1; rw [Array.length_toList, hzt.cells] at this; exact this
  have hlt : i * ti.size + j < n.toNat * ti.size := by
   have : (i + 1) * ti.size ≤ n.toNat * ti.size := Nat.mul_le_mul_right _ hi'
   rw [Nat.succ_mul] at this
   omega
  have hm : (i * ti.size + j) % ti.zero.cells.size = j := by rw [hzt.cells, Nat.mul_comm, Nat.mul_add_mod, Nat.mod_eq_of_lt hj']
  refine ⟨u, ?_, List.all_eq_true.1 hzt.one u (List.mem_of_getElem? hu'), .v u⟩
  rw [Nat.zero_add]
  have hj2 : j < ti.zero.cells.size := by rw [hzt.cells]; exact hj'
  have hget : ti.zero.cells[j]! = u := by
   rw [Array.getElem?_toList] at hu'
   rw [getElem!_pos ti.zero.cells j hj2]
   rw [Array.getElem?_eq_getElem hj2] at hu'
   injection hu'
  have hsz2 : (Builtin.zeroCells ti.zero.cells n.toNat).size = n.toNat * ti.size := by rw [size_zeroCells, hzt.cells]
  simp only [cur]
  rw [Array.getElem?_append_left (by rw [hsz2]; exact hlt)]
  simp only [Builtin.zeroCells, Array.getElem?_map, Array.getElem?_range]
  rw [if_pos (by rw [hzt.cells]; exact hlt)]
  simp only [Option.map_some, hm, hget]
 let w1 := w.drew.alloc (.cells cur e)
 have hE : Ext w w1 := ⟨rfl, rfl, rfl, by simp [w1], fun b hb _ => by
  have : (w.drew.alloc (.cells cur e)).heap[b]? = w.drew.heap[b]? := Below.heap_alloc w.drew _ b hb
  exact this⟩
 have hrun : (execOp a.eval o).run P w = .ok (.value (.slice (some ⟨w.heap.size, 0, none⟩) n.toNat (grownCap w n.toNat 0 e))) w1 := by
  simp [execOp, ho, resolve, invoke, builtin, hv, hv2, hr1, w1, cur]
 refine ⟨_, w1, upd σ s.heap.length (some (.at_ w.heap.size 0 (grownCap w n.toNat 0 e) n.toNat)), F, _, _, hrun, ⟨hE.size, fun b hb => hE.block b hb (fun h => h)⟩, (hr.ext hE).new ?_ (fun g hk => ?_), ?_, hK⟩
 ·exact .inr ⟨w.heap.size, 0, grownCap w n.toNat 0 e, cur, by rw [Z7]; simp, by simpa using hge, by simpa using hcm, heap_alloc_new w.drew _, hcs, fun cs hcs' => by rw [(List.mem_replicate.1 hcs').2]; simp [hzt.cells], hrep w1⟩
 ·have e1 : g = w.heap.size := hk
  subst e1
  refine ⟨by simp [w1], fun hF => ?_, hr.keep.size, fun id h => ?_⟩
  ·have := hr.heap.flt _ hF; omega
  ·have := (hr.heap.lt _ _ h).1; omega
 ·have := RepV.own (σ := upd σ s.heap.length (some (.at_ w.heap.size 0 (grownCap w n.toNat 0 e) n.toNat))) (F := F) (w := w1) s.heap.length ti.size 0 n.toNat w.heap.size 0 (grownCap w n.toNat 0 e) n.toNat (Z7 _ _ _) (by simp) hge
  simpa using this
theorem Zbu (l : List AObj) : l.map (AObj.sub _root_.id) = l := by
 have : AObj.sub _root_.id = (_root_.id : AObj → AObj) := by funext p; exact AObj.sub_id p
 rw [this, List.map_id]
theorem Zbl {t kt et : Nat} {y z q : Operand} (ho : o.op = .mapUpdate t y z q) (hm : P.underlying t = some (.map kt et)) (hkt : P.underlying kt = some .string)
  {id : Nat} {k : List Nat} (hy : s.ev y = .nm id k) {b : ByteArray} (hz : s.ev z = .v (.string b)) {u : Value} (hu : AV.le (s.ev q) (Z52 u)) {es : List (ByteArray × Value)} (hq : s.heap[id]? = some (.mapo es)) (hd : dOK X.n o.dst)
  (hK : K (St.put { s with heap := s.heap.set id (.mapo (Z1q b u es)) } o.dst .any)) : opWP P X o K s := by
 refine opWP.unit (fun σ F a w hr => ?_) hd
 obtain ⟨g, arr, clock, h1, h2, h3, hmi⟩ := Zk4 hr hy hq
 obtain ⟨es0, h4, hp0⟩ := hmi.1
 have hz' : a.eval z = .string b := RepV.val (hz ▸ hr.ev z)
 have hu' : a.eval q = u := RepV.ofValAV (RepV.le hu (hr.ev q))
 have hck := MapKept.run_checkKey (P := P) (w := w) (k := .string b) hkt trivial false 9999
 have hid : id < s.heap.length := (List.getElem?_eq_some_iff.1 hq).1
 have hupd : upd σ id (σ id) = σ := by
  funext i
  by_cases e : i = id
  ·subst e; exact Z7 _ _ _
  ·exact Zg _ _ e
 have fin : ∀ (arr' : Array MapEntry) (clock' : Nat), MapIs arr' clock' (Z1q b u es) → (execOp a.eval o).run P w = .ok .skip { w with heap := w.heap.setIfInBounds g (.map arr' clock') } →
   ∃ w' σ' F' s', (execOp a.eval o).run P w = .ok .skip w' ∧ RepAt X σ' F' s' a w' ∧ K (s'.put o.dst .any) := by
  intro arr' clock' h5 h6
  obtain ⟨h7, h8⟩ := MapKept.heap_set (o' := .map arr' clock') h3
  have hown : hasB σ id g := ⟨_, h1, rfl⟩
  have hFF : ∀ b, F b → (w.heap.setIfInBounds g (.map arr' clock'))[b]? = w.heap[b]? := fun b hb => h8 b (fun e => (hr.heap.lt _ _ hown).2 (e ▸ hb))
  have hch := hr.change (w' := { w with heap := w.heap.setIfInBounds g (.map arr' clock') }) (F' := F) hid (k := σ id) (f := _root_.id) (ob := .mapo (Z1q b u es)) rfl rfl rfl (by simp) (fun g' _ hn => h8 g' (fun e => hn (e ▸ hown))) (fun _ h => h) (fun _ h => .inl h)
   (fun q g' hq' hg' => by
    have hb : hasB σ id g' := ⟨q, hq', hg'⟩
    exact ⟨by simpa using (hr.heap.lt _ _ hb).1, (hr.heap.lt _ _ hb).2, .inl hb⟩)
   (fun i sz off len y h => by rw [hupd]; exact h.mono (fun _ h => h) hFF)
   (fun i q sz j y h => by rw [hupd]; exact h.mono (fun _ h => h) hFF)
   (fun i q y h => by rw [hupd]; exact h.mono (fun _ h => h) hFF)
   (fun _ => .inl rfl) (by rw [hupd]; exact ⟨g, arr', clock', h1, h7, h5⟩)
  rw [Z5k, Zbu] at hch
  exact ⟨_, _, F, _, h6, hch, hK⟩
 rcases Z4h b arr.toList es0 0 h4 with ⟨h5, h6, h7⟩ | ⟨j, e, h5, h6, h7, h8, h9⟩
 ·have hf := MapKept.run_findKey (P := P) (w := w) hkt h5
  refine fin (arr.push { key := .string b, val := u, born := clock }) (clock + 1) ?_ ?_
  ·exact hmi.push h4 hp0 (h7 u)
  ·simp [execOp, ho, h2, hz', hu', Instr.mapUpdate, run_underlying hm, MapKept.run_getObj_map h3, hck, hf, MapKept.run_setObj_map _ h3, Sem.run_bind, Result.andThen]
 ·rw [Nat.zero_add] at h5
  have hf := MapKept.run_findKey (P := P) (w := w) hkt h5
  have hget : (Option.map (fun x : MapEntry => x.key) arr[j]?).getD (.string b) = .string b := by
   rw [← Array.getElem?_toList, h7]; simp [h8]
  have hstay : (Instr.keyThatStays (.string b) (.string b)).run P w = .ok (.string b) w := MapKept.run_keyThatStays (d := .string) trivial
  refine fin (arr.modify j fun e => { e with key := .string b, val := u }) clock ?_ ?_
  ·exact hmi.modify hp0 (h9 u)
  ·simp [execOp, ho, h2, hz', hu', Instr.mapUpdate, run_underlying hm, MapKept.run_getObj_map h3, hck, hf, hget, hstay, MapKept.run_setObj_map _ h3, Sem.run_bind, Result.andThen]
end
end Go.Proofs.YtplgphblmeceoaaGreatDoor.Eng
set_option linter.unusedVariables false
set_option linter.unusedSimpArgs false
namespace Go.Proofs.YtplgphblmeceoaaGreatDoor.Eng
open Go Go.RowKit
section
variable {P : Program} {T : Tab} {X : Ctx} {σ σ' : Nat → Option Blk} {F F' : Nat → Prop} {s s' : St} {a : Act} {w w' : World} {o : Oper} {c : Prop} {x : AV} {v : Value} {K : St → Prop}
theorem Z7z {id : Nat} {k : Option Blk} : ∀ i sz off len y, RepV σ F w (.own i sz off len) y → RepV (upd σ id k) F' w' (Zh id (.own i sz off len)) y := by
 intro i sz off len y h
 simp only [Zh]
 by_cases e : i = id
 ·rw [if_pos e]; exact .f _ _ (.any _)
 ·rw [if_neg e]
  have hs := Zg σ k e
  cases h with
  | f _ _ h => cases h
  | own0 _ _ h => exact .own0 _ _ (hs.trans h)
  | own _ _ _ _ g b c n h hn hc => exact .own _ _ _ _ g b c n (hs.trans h) hn hc
  | ownz _ _ _ g b c n a h hn hc => exact .ownz _ _ _ g b c n a (hs.trans h) hn hc
theorem Z7y {id : Nat} {k : Option Blk} : ∀ i q sz j y, RepV σ F w (.ptr i q sz j) y → RepV (upd σ id k) F' w' (Zh id (.ptr i q sz j)) y := by
 intro i q sz j y h
 simp only [Zh]
 by_cases e : i = id
 ·rw [if_pos e]; exact .f _ _ (.any _)
 ·rw [if_neg e]
  have hs := Zg σ k e
  cases h with
  | f _ _ h => cases h
  | ptr _ _ _ _ g b c n h => exact .ptr _ _ _ _ g b c n (hs.trans h)
def ptrOf (k : Blk) (sz i c : Nat) : Value := match k with
 | .at_ g b _ _ => .pointer (some ⟨g, (b + i) * sz + c, none⟩)
 | _ => undef
theorem Zis (k : Blk) (sz : Nat) : Zkf k sz (ptrOf k sz) := fun g b c n h i j => by subst h; rfl
theorem Zh4 {id sz n : Nat} {q : Blk} (h : RepV σ F w (.own id sz 0 n) v) (hs : σ id = some q) : HdrRep q F w sz n v := by
 cases h with
 | f _ _ h => cases h
 | own0 _ _ h => rw [hs] at h; exact .own0 _ _ h
 | own _ _ _ _ g b c n h hn hc => rw [hs] at h; exact .own _ _ _ _ g b c n h hn hc
 | ownz _ _ _ g b c n a h hn hc => rw [hs] at h; exact .ownz _ _ _ g b c n a h hn hc
theorem Zd3 {id e sz : Nat} {es : List (List AV)} (h : RepO σ F w id (.row e sz es)) : ∃ q, σ id = some q ∧ RowRep q F w e sz es := by
 rcases h with ⟨h1, h2⟩ | ⟨g, b, c, cur, h1, h2, h3, h4, h5, h6, h7⟩
 ·exact ⟨.nil, h1, .inl ⟨rfl, h2⟩⟩
 ·exact ⟨_, h1, .inr ⟨g, b, c, cur, rfl, h2, h3, h4, h5, h6, h7⟩⟩
def Z4b (q : Blk) (v : Value) : List Nat → Value
 | [0] => v
 | [1, _] => .slice none 0 0
 | [2, k] => ptrOf q 1 k 0
 | _ => undef
theorem Zih {q : Blk} {e ei sz n : Nat} (hr : RowRep q F w e 1 (List.replicate n [.v (.slice none 0 0)])) (hh : HdrRep q F w 1 n v) : TreeRep F w e ei sz none (List.replicate n []) q (fun _ => .nil) (Z4b q v) := by
 refine ⟨?_, by simpa [Z4b] using hh, fun g b c n' hq k => ?_, fun k row hk => ?_, fun k row hk _ => ?_, fun j hj => (by cases hj), fun k g b c n' h => (by cases h), fun _ _ => rfl, fun k g _ h => h, fun k k' g h => h.elim⟩
 ·have : (List.range (List.replicate n ([] : List (List AV))).length).map (fun k => [AV.v (Z4b q v [1, k])]) = List.replicate n [.v (.slice none 0 0)] := by
   rw [List.length_replicate]
   apply List.ext_getElem?
   intro i
   rw [List.getElem?_map, List.getElem?_replicate]
   by_cases hi : i < n
   ·rw [List.getElem?_range hi, if_pos hi]; rfl
   ·rw [List.getElem?_eq_none (by simp; omega), if_neg hi]; rfl
  rw [this]; exact hr
 ·show ptrOf q 1 k 0 = _
  rw [Zis q 1 g b c n' hq k 0, Nat.mul_one, Nat.add_zero]
 ·rw [List.getElem?_replicate] at hk
  split at hk
  ·cases hk; exact .inl ⟨rfl, rfl⟩
  ·cases hk
 ·rw [List.getElem?_replicate] at hk
  split at hk
  ·cases hk; exact .own0 0 sz rfl
  ·cases hk
theorem RepAt.newTree (hr : RepAt X σ F s a w) (e ei sz : Nat) {d : Nat} (hd : envGet s.env d = .v (.slice none 0 0)) : ∃ σ', RepAt X σ' F ⟨(d, .nm s.heap.length [0]) :: s.env, s.heap ++ [.tree e ei sz none []]⟩ a w := by
 have hT : TreeRep F w e ei sz none [] .nil (fun _ => .nil) (Z4b .nil (.slice none 0 0)) := Zih (n := 0) (.inl ⟨rfl, rfl⟩) (.own0 0 1 rfl)
 have h := hr.new (k := .ext (Z9n .nil (fun _ => .nil)) (Z4b .nil (.slice none 0 0))) (ob := .tree e ei sz none []) ⟨.nil, _, _, Z7 _ _ _, hT⟩ (fun g hg => by rcases hg with hg | ⟨_, hg⟩ <;> exact hg.elim)
 refine ⟨_, ⟨h.defers, h.size, fun i => ?_, h.heap, h.keep, h.own, h.fnew, h.stab, h.hm⟩⟩
 simp only [envGet]
 by_cases hi : i = d
 ·rw [if_pos hi]
  subst hi
  have h2 := hr.env i
  rw [hd] at h2
  rw [RepV.val h2]
  exact .nm _ [0] _ (Z4b .nil (.slice none 0 0)) (Z7 _ _ _) rfl
 ·rw [if_neg hi]; exact h.env i
theorem Zda (hT : Zo P T) {t e : Nat} {y : Operand} (ho : o.op = .convert t t y) {m p : Nat} {z : Value} (ht : T t = some ⟨.slice e, m, p, z⟩) {m' p' : Nat} {z' : Value} (he : T e = some ⟨.int .u8, m', p', z'⟩)
  {id e0 : Nat} {es : List (List AV)} (hy : s.ev y = .own id 1 0 es.length) (hq : s.heap[id]? = some (.row e0 1 es)) (hpos : 0 < es.length) (hd : dOK X.n o.dst)
  (hK : K (St.put ⟨Z14 (Zh id) s.env, (s.heap.map (AObj.sub (Zh id))).set id .dead⟩ o.dst (.ro 1 es))) : opWP P X o K s := by
 refine opWP.mem (fun σ F a w hr => ?_) hd
 have hid : id < s.heap.length := (List.getElem?_eq_some_iff.1 hq).1
 obtain ⟨q, h1, h2⟩ := Zd3 (hr.heap.obj id _ hq)
 have h3 := Zh4 (hy ▸ hr.ev y) h1
 obtain ⟨g, b, c, rfl⟩ := h2.pos hpos
 have hv := h3.at hpos
 obtain ⟨_, h4, h5, cur, h6, h7, h8, h9⟩ := h2.at
 have hu : P.underlying t = some (.slice e) := (hT _ _ ht).kind
 have hue : P.underlying e = some (.int .u8) := (hT _ _ he).kind
 have hsh : w.shape? g = some (e0, cur.size) := by simp [World.shape?, h6]
 have hlt := hr.heap.lt _ _ (.at h1)
 let w' : World := w.freeze ⟨g, cur.size, none⟩ 1
 have hg' : w'.heap[g]? = some (.cells cur e0 (cur.size, cur.size + 1)) := by
  simp only [w', World.freeze]
  rw [if_neg (by decide)]
  simp only [Array.getElem?_modify, if_true, h6, Option.map_some]
  rfl
 have hoth : ∀ g', g' ≠ g → w'.heap[g']? = w.heap[g']? := fun g' hn => by
  simp only [w', World.freeze]
  rw [if_neg (by decide)]
  simp only [Array.getElem?_modify]
  rw [if_neg (fun e => hn e.symm)]
 have hsize : w.heap.size ≤ w'.heap.size := by
  simp only [w', World.freeze]
  rw [if_neg (by decide)]
  simp
 have hrun : (execOp a.eval o).run P w = .ok (.value (a.eval y)) w' := by
  rw [hv]
  simp [execOp, ho, hv, convert, run_underlying hu, run_underlying hue, markStringish, hsh, w']
 let F' : Nat → Prop := fun b => F b ∨ hasB σ id b
 have hFb : ∀ b, F b → w'.heap[b]? = w.heap[b]? := fun b hb => hoth b (fun e => hlt.2 (e ▸ hb))
 have hro : RepF F' w' (.ro 1 es) (a.eval y) := by
  rw [hv]
  refine .ro 1 es.length c es ⟨g, b * 1, none⟩ (fun i j => (cur[(b + i) * 1 + j]?).getD undef) rfl h4 (.inr (.at h1)) h8 (fun i cs j x hi hj => ?_) (fun i cs j x hi hj => ?_)
  ·obtain ⟨u, k1, k2, k3⟩ := h9 i cs j x hi hj
   simp only [k1, Option.getD_some]
   refine ⟨?_, k2⟩
   rw [Zq, ← Nat.add_assoc, ← Nat.add_mul]
   simp [World.cell?, hg', k1]
   simpa using k1
  ·obtain ⟨u, k1, k2, k3⟩ := h9 i cs j x hi hj
   simp only [k1, Option.getD_some]
   exact k3.mono (fun _ h => .inl h) hFb
 exact ⟨a.eval y, w', upd σ id none, F', _, .ro 1 es, hrun, hr.change (ob := .dead) hid rfl rfl rfl hsize (fun g' _ hn => hoth g' (fun e => hn (e ▸ .at h1))) (fun _ h => .inl h) (fun _ h => h) (fun q g h => by cases h) Z7z Z7y Z3j (fun _ => .inr rfl) (Z7 _ _ _), .f _ _ hro, hK⟩
end
end Go.Proofs.YtplgphblmeceoaaGreatDoor.Eng
set_option linter.unusedVariables false
set_option linter.unusedSimpArgs false
namespace Go.Proofs.YtplgphblmeceoaaGreatDoor.Eng
open Go Go.RowKit
def Z2v (v : Value) (g : Nat) : Array Value := match decide (g = 1000000) with | true => #[v] | false => #[v, .func (.func g) #[] #[]]
theorem Zb8 (v : Value) : Z2v v 1000000 = #[v] := rfl
theorem Zb7 (v : Value) {g : Nat} (h : g ≠ 1000000) : Z2v v g = #[v, .func (.func g) #[] #[]] := by unfold Z2v; rw [decide_eq_false h]
structure SortPair (P : Program) (f g k : Nat) (xs ys : List (List Value)) : Prop where
 len : ys.length = xs.length
 size : ∀ c ∈ ys, c.length = k
 one : ∀ c ∈ ys, ∀ v ∈ c, v.oneCell' = true
 atNone : xs = [] → ∀ (p : Option Addr) (cap : Nat) (w : World), Calls P f (Z2v (.slice p 0 cap) g) w fun e w' => e = .returned (.tuple #[]) ∧ w' = w
 atSome : xs ≠ [] → ∀ (blk off cap : Nat) (w : World), Sort.Holds id w blk off xs.flatten.toArray → blk < w.heap.size → Calls P f (Z2v (.slice (some ⟨blk, off, none⟩) xs.length cap) g) w fun e w' => e = .returned (.tuple #[]) ∧ ∃ n os, w' = Sort.grow (Sort.putRow id (Sort.ahead w n) blk off ys.flatten.toArray) os
theorem Z2g {α : Type} {k : Nat} : ∀ {xs : List (List α)}, (∀ c ∈ xs, c.length = k) → xs.flatten.length = xs.length * k
 | [], _ => by simp
 | c :: xs, h => by
  have h1 := h c (List.mem_cons_self ..)
  have h2 := Z2g (xs := xs) (fun c hc => h c (List.mem_cons_of_mem _ hc))
  simp only [List.flatten_cons, List.length_append, List.length_cons, h1, h2, Nat.succ_mul]; omega
theorem Z2h {α : Type} {k : Nat} : ∀ {xs : List (List α)} {i j : Nat} {c : List α}, (∀ c ∈ xs, c.length = k) → xs[i]? = some c → j < k → xs.flatten[i * k + j]? = c[j]?
 | [], i, j, c, _, hi, _ => by simp at hi
 | d :: xs, 0, j, c, h, hi, hj => by
  simp at hi
  subst hi
  rw [Nat.zero_mul, Nat.zero_add, List.flatten_cons, List.getElem?_append_left (by rw [h d (List.mem_cons_self ..)]; exact hj)]
 | d :: xs, i + 1, j, c, h, hi, hj => by
  have hd := h d (List.mem_cons_self ..)
  rw [List.flatten_cons, List.getElem?_append_right (by rw [hd, Nat.succ_mul]; omega), hd]
  have e : (i + 1) * k + j - k = i * k + j := by rw [Nat.succ_mul]; omega
  rw [e]
  exact Z2h (fun c hc => h c (List.mem_cons_of_mem _ hc)) (by simpa using hi) hj
def rowV (xs : List (List Value)) : List (List AV) := xs.map fun c => c.map .v
section
variable {P : Program} {T : Tab} {X : Ctx} {σ σ' : Nat → Option Blk} {F F' : Nat → Prop} {s s' : St} {a : Act} {w w' : World} {o : Oper} {c : Prop} {x : AV} {v : Value} {K : St → Prop}
theorem Z70 {xs : List (List Value)} {i : Nat} {cs : List AV} (h : (rowV xs)[i]? = some cs) : ∃ c, xs[i]? = some c ∧ cs = c.map .v := by
 unfold rowV at h
 rw [List.getElem?_map, Option.map_eq_some_iff] at h
 obtain ⟨c, h1, rfl⟩ := h
 exact ⟨c, h1, rfl⟩
theorem RepAt.turnObj (hr : RepAt X σ F s a w) {i : Nat} (hid : i < s.heap.length) {g b c n : Nat} (hs : σ i = some (.at_ g b c n)) {ob : AObj} (h1 : w'.os = w.os) (h2 : w'.tape = w.tape) (h3 : w'.output = w.output) (h4 : w.heap.size ≤ w'.heap.size) (h5 : ∀ g', g' < w.heap.size → g' ≠ g → w'.heap[g']? = w.heap[g']?) (hob : RepO σ F w' i ob) : RepAt X σ F ⟨s.env, s.heap.set i ob⟩ a w' := by
 have hgF : ¬ F g := (hr.heap.lt _ _ (.at hs)).2
 have hF : ∀ b, F b → w'.heap[b]? = w.heap[b]? := fun b hb => h5 b (hr.heap.flt b hb) (fun e => hgF (e ▸ hb))
 have hup : upd σ i (σ i) = σ := by
  funext q
  unfold upd
  split
  ·rename_i e; rw [e]
  ·rfl
 have h := hr.change (w' := w') (F' := F) (f := _root_.id) (k := σ i) (ob := ob) hid h1 h2 h3 h4 (fun g1 hg1 hne => h5 g1 hg1 (fun e => hne (.at (e ▸ hs)))) (fun _ h => h) (fun _ h => .inl h)
  (fun q1 g1 h hg => ⟨Nat.lt_of_lt_of_le (hr.heap.lt _ _ ⟨q1, h, hg⟩).1 h4, (hr.heap.lt _ _ ⟨q1, h, hg⟩).2, .inl ⟨q1, h, hg⟩⟩)
  (fun q sz off len y h => by rw [hup]; exact h.mono (fun _ h => h) hF) (fun q k sz j y h => by rw [hup]; exact h.mono (fun _ h => h) hF) (fun q k y h => by rw [hup]; exact h.mono (fun _ h => h) hF) (fun _ => .inl rfl) (by rw [hup]; exact hob)
 rw [hup, Z5k, Z9b] at h
 exact h
theorem op_sort {fop : Operand} {y : Operand} {zs : List Operand} {ar : Array Operand} {ts : Array Nat} (ho : o.op = .call { callee := .value fop, args := ar, argTypes := ts }) (har : ar.toList = y :: zs) {f g k : Nat} (hf : s.ev fop = .fn f []) (hE : Enters P f) {xs ys : List (List Value)} (hp : SortPair P f g k xs ys)
  (hk : ∀ c ∈ xs, c.length = k) {id e0 : Nat} (hy : s.ev y = .own id k 0 xs.length) (hz : (g = 1000000 ∧ zs = []) ∨ (g ≠ 1000000 ∧ ∃ z, zs = [z] ∧ s.ev z = .fn g [])) (hq : s.heap[id]? = some (.row e0 k (rowV xs))) (hd : dOK X.n o.dst) (hK : K (St.put ⟨s.env, s.heap.set id (.row e0 k (rowV ys))⟩ o.dst .any)) : opWP P X o K s := by
 rintro Qc next a w hn ⟨σ, F, hr⟩
 have hid : id < s.heap.length := (List.getElem?_eq_some_iff.1 hq).1
 obtain ⟨us, hfv, hul, _⟩ := RepV.fnv (hf ▸ hr.ev fop)
 obtain rfl : us = [] := List.eq_nil_of_length_eq_zero hul.symm
 have hva : ar.map a.eval ++ #[] = Z2v (a.eval y) g := by
  rcases hz with ⟨rfl, rfl⟩ | ⟨hg, z, rfl, hz⟩
  ·apply Array.ext'
   simp [har, Zb8]
  ·obtain ⟨vs, hzv, hvl, _⟩ := RepV.fnv (hz ▸ hr.ev z)
   obtain rfl : vs = [] := List.eq_nil_of_length_eq_zero hvl.symm
   have hzv' : a.eval z = .func (.func g) #[] #[] := hzv
   rw [Zb7 _ hg, ← hzv']
   apply Array.ext'
   simp [har]
 have hrun : (execOp a.eval o).run P w = .ok (.enter f (Z2v (a.eval y) g)) w := by
  simp [execOp, ho, resolve, hfv, Deferred.ofValue, invoke, hE (Z2v (a.eval y) g) w]
  simpa using hva ▸ hE (Z2v (a.eval y) g) w
 obtain ⟨q, h1, h2⟩ := Zd3 (hr.heap.obj id _ hq)
 have h3 := Zh4 (hy ▸ hr.ev y) h1
 unfold Oper.wp
 rw [hrun]
 show Calls P f (Z2v (a.eval y) g) w _
 have hrl : (rowV xs).length = xs.length := by simp [rowV]
 by_cases h0 : xs = []
 ·obtain ⟨A, cap, hv⟩ := h3.slice
  rw [hv]
  have hys : ys = [] := List.eq_nil_of_length_eq_zero (by rw [hp.len, h0]; rfl)
  rw [h0]
  refine (hp.atNone h0 A cap w).mono ?_
  rintro e w' ⟨rfl, rfl⟩
  have hsame : s.heap.set id (.row e0 k (rowV ys)) = s.heap := by
   rw [hys, ← h0]
   apply List.ext_getElem?
   intro j
   by_cases hj : id = j
   ·subst hj; rw [List.getElem?_set_self hid, hq]
   ·rw [List.getElem?_set_ne hj]
  rw [hsame] at hK
  exact hn _ _ _ hK ⟨σ, F, hr.put hd (.f _ _ (.any _))⟩
 ·have hpos : 0 < xs.length := List.length_pos_iff.2 h0
  obtain ⟨gb, b, c, rfl⟩ := h2.pos (by rw [hrl]; exact hpos)
  rw [hrl] at h1 h2 h3
  have hv := h3.at hpos
  rw [hv]
  obtain ⟨_, h4, h5, cur, h6, h7, h8, h9⟩ := h2.at
  rw [hrl] at h4
  have hlt := hr.heap.lt _ _ (.at h1)
  have hfl := Z2g hk
  have hkpos : ∀ t, t < xs.length * k → 0 < k := fun t ht => by
   rcases Nat.eq_zero_or_pos k with h | h
   ·rw [h, Nat.mul_zero] at ht; omega
   ·exact h
  have hcell : ∀ t, t < xs.length * k → ∃ u, cur[b * k + t]? = some u ∧ xs.flatten[t]? = some u := fun t ht => by
   obtain ⟨i, j, hi, hj, rfl⟩ := Zt ht
   have hi2 := List.getElem?_eq_getElem hi
   have hcl := hk _ (List.getElem_mem hi)
   have hj2 : j < (xs[i]).length := by rw [hcl]; exact hj
   obtain ⟨u, k1, k2, k3⟩ := h9 i (xs[i].map .v) j (.v xs[i][j]) (by unfold rowV; rw [List.getElem?_map, hi2]; rfl) (by rw [List.getElem?_map, List.getElem?_eq_getElem hj2]; rfl)
   have hu : u = xs[i][j] := by cases k3; rfl
   refine ⟨u, ?_, ?_⟩
   ·rw [← k1, Nat.add_mul]; congr 1; omega
   ·rw [Z2h hk hi2 hj, List.getElem?_eq_getElem hj2, hu]
  have hH : Sort.Holds _root_.id w gb (b * k) xs.flatten.toArray := fun t ht => by
   have ht' : t < xs.length * k := by simpa [hfl] using ht
   obtain ⟨u, k1, k2⟩ := hcell t ht'
   have k3 : xs.flatten.toArray[t]! = u := by
    rw [getElem!_pos _ t ht]
    have : xs.flatten.toArray[t]? = some u := by simpa using k2
    rw [Array.getElem?_eq_getElem ht] at this
    exact Option.some.inj this
   refine ⟨?_, ?_⟩
   ·rw [k3]
    simp only [World.cell?, h6]
    simpa using k1
   ·simp [World.frozen?, h6]
  refine (hp.atSome h0 gb (b * k) c w hH hlt.1).mono ?_
  rintro e w' ⟨rfl, n, os, rfl⟩
  have hyl : ys.flatten.length = xs.length * k := by rw [Z2g hp.size, hp.len]
  let Y := ys.flatten.toArray
  let cur' := Sort.putCells _root_.id (b * k) Y cur
  have hw1 : (Sort.putRow _root_.id (Sort.ahead w n) gb (b * k) Y).heap[gb]? = some (.cells cur' e0 (0, 0)) := by
   simp only [Sort.putRow, Sort.mapBlock, Array.getElem?_modify, if_true]
   rw [show (Sort.ahead w n).heap = w.heap from rfl, h6]
   rfl
  have hsz : (Sort.putRow _root_.id (Sort.ahead w n) gb (b * k) Y).heap.size = w.heap.size := by simp
  have hw : (Sort.grow (Sort.putRow _root_.id (Sort.ahead w n) gb (b * k) Y) os).heap[gb]? = some (.cells cur' e0 (0, 0)) := by
   rw [Sort.heap_grow_old _ _ (by rw [hsz]; exact hlt.1)]; exact hw1
  have hcs : cur'.size = cur.size := by simp [cur', Sort.putCells]
  have hget : ∀ t, t < xs.length * k → ∀ u, ys.flatten[t]? = some u → cur'[b * k + t]? = some u := fun t ht u hu => by
   obtain ⟨u0, k1, _⟩ := hcell t ht
   simp only [cur', Sort.putCells, Array.getElem?_mapIdx, k1, Option.map_some]
   rw [if_pos ⟨by omega, by simp only [Y, List.size_toArray, hyl]; omega⟩, show b * k + t - b * k = t by omega]
   have htl : t < Y.size := by simp only [Y, List.size_toArray, hyl]; exact ht
   have : Y[t]? = some u := by simpa [Y] using hu
   rw [getElem!_pos Y t htl]
   rw [Array.getElem?_eq_getElem htl] at this
   exact congrArg some (Option.some.inj this)
  refine hn _ _ _ hK ⟨σ, F, (hr.turnObj (w' := Sort.grow (Sort.putRow _root_.id (Sort.ahead w n) gb (b * k) Y) os) (ob := .row e0 k (rowV ys)) hid h1 rfl rfl rfl ?_ (fun g' hg' hne => ?_) ?_).put hd (.f _ _ (.any _))⟩
  ·show w.heap.size ≤ ((Sort.putRow _root_.id (Sort.ahead w n) gb (b * k) Y).heap ++ os).size
   rw [Array.size_append, hsz]; omega
  ·rw [Sort.heap_grow_old _ _ (by rw [hsz]; exact hg')]
   simp only [Sort.putRow, Sort.mapBlock, Array.getElem?_modify]
   rw [if_neg (fun e => hne e.symm)]
   rfl
  ·have hyr : (rowV ys).length = xs.length := by simp [rowV, hp.len]
   refine .inr ⟨gb, b, c, cur', by rw [hyr]; exact h1, by rw [hyr]; exact h4, h5, hw, by rw [hcs]; exact h7, fun cs hcs' => ?_, fun i cs j x hi hj => ?_⟩
   ·obtain ⟨i, hi⟩ := List.getElem?_of_mem hcs'
    obtain ⟨c', k1, rfl⟩ := Z70 hi
    rw [List.length_map]; exact hp.size c' (List.mem_of_getElem? k1)
   ·obtain ⟨c', k1, rfl⟩ := Z70 hi
    rw [List.getElem?_map, Option.map_eq_some_iff] at hj
    obtain ⟨u, k2, rfl⟩ := hj
    have hcl := hp.size c' (List.mem_of_getElem? k1)
    have hj' : j < k := by have := (List.getElem?_eq_some_iff.1 k2).1; omega
    have hi' : i < xs.length := by have := (List.getElem?_eq_some_iff.1 k1).1; rw [hp.len] at this; exact this
    have htl : i * k + j < xs.length * k := by
     have : (i + 1) * k ≤ xs.length * k := Nat.mul_le_mul_right _ hi'
     rw [Nat.succ_mul] at this; omega
    refine ⟨u, ?_, hp.one c' (List.mem_of_getElem? k1) u (List.mem_of_getElem? k2), .v _⟩
    rw [Nat.add_mul, Nat.add_assoc]
    exact hget _ htl u ((Z2h hp.size k1 hj').trans k2)
end
end Go.Proofs.YtplgphblmeceoaaGreatDoor.Eng
set_option linter.unusedVariables false
set_option linter.unusedSimpArgs false
namespace Go.Proofs.YtplgphblmeceoaaGreatDoor.Eng
open Go Go.RowKit
section
variable {P : Program} {T : Tab} {X : Ctx} {σ σ' : Nat → Option Blk} {F F' : Nat → Prop} {s s' : St} {a : Act} {w w' : World} {o : Oper} {c : Prop} {x : AV} {v : Value} {K : St → Prop}
theorem RowRep.store {g b c n e sz k j : Nat} {es : List (List AV)} (h : RowRep (.at_ g b c n) F w e sz es) (hk : k < es.length) {vs : List Value} {cs : List AV} (hl : vs.length = cs.length) (hb : j + cs.length ≤ sz) (h1 : ∀ u ∈ vs, u.oneCell' = true)
  (hr : ∀ (p : Nat) (x : AV) (u : Value), cs[p]? = some x → vs[p]? = some u → RepF F w x u) (hgF : ¬ F g) : ∃ cur : Array Value, w.heap[g]? = some (.cells cur e (0, 0)) ∧ (b + k) * sz + j + vs.length ≤ cur.size ∧
   RowRep (.at_ g b c n) F (w.setRow g (cur.toList.take ((b + k) * sz + j) ++ vs ++ cur.toList.drop ((b + k) * sz + j + vs.length)).toArray) e sz (es.set k (putA (getRow es k) j cs)) := by
 obtain ⟨e4, hle, hbc, cur, hg, hcs, hes, hcell⟩ := h.at
 have hrow : (b + k) * sz + sz ≤ cur.size := by
  rw [hcs, ← Nat.succ_mul]
  exact Nat.mul_le_mul_right _ (by omega)
 have hbb : (b + k) * sz + j + vs.length ≤ cur.size := by omega
 have hrk : es[k]? = some (getRow es k) := by simp [getRow, List.getElem?_eq_getElem hk]
 have hrl : (getRow es k).length = sz := hes _ (List.mem_of_getElem? hrk)
 refine ⟨cur, hg, hbb, ?_⟩
 refine .inr ⟨g, b, c, _, by rw [List.length_set, e4], by simpa using hle, hbc, setRow_heap w g _ _ e _ hg, by rw [Z59 _ _ _ hbb, hcs], fun r hr' => ?_, fun q r p x hq' hp => ?_⟩
 ·rcases List.mem_or_eq_of_mem_set hr' with h9 | h9
  ·exact hes r h9
  ·subst h9; simp [putA]; omega
 ·rw [Z2o _ _ _ hbb]
  have hmv : ∀ x u, RepF F w x u → RepF F (w.setRow g (cur.toList.take ((b + k) * sz + j) ++ vs ++ cur.toList.drop ((b + k) * sz + j + vs.length)).toArray) x u :=
   fun x u h => h.mono (fun _ h => h) (fun b hb => setRow_other w g b _ (fun e => hgF (e ▸ hb)))
  by_cases hqk : q = k
  ·subst hqk
   rw [List.getElem?_set_self hk] at hq'
   injection hq' with hq'
   subst hq'
   rw [Z71 _ _ _ _ (by omega)] at hp
   split at hp
   ·rename_i hcnd
    have hlt : p - j < vs.length := by omega
    rw [if_pos (by omega), show (b + q) * sz + p - ((b + q) * sz + j) = p - j by omega]
    exact ⟨_, List.getElem?_eq_getElem hlt, h1 _ (List.getElem_mem hlt), hmv _ _ (hr _ x _ hp (List.getElem?_eq_getElem hlt))⟩
   ·rename_i hcnd
    obtain ⟨u, h9, h10, h11⟩ := hcell q _ p x hrk hp
    rw [if_neg (by omega)]
    exact ⟨u, h9, h10, hmv _ _ h11⟩
  ·rw [List.getElem?_set_ne (by omega)] at hq'
   obtain ⟨u, h9, h10, h11⟩ := hcell q r p x hq' hp
   have hps : p < sz := by have := (List.getElem?_eq_some_iff.1 hp).1; rw [hes r (List.mem_of_getElem? hq')] at this; exact this
   rw [if_neg ?_]
   ·exact ⟨u, h9, h10, hmv _ _ h11⟩
   ·rintro ⟨h12, h13⟩
    rcases Nat.lt_or_gt_of_ne hqk with h14 | h14
    ·have : (b + q + 1) * sz ≤ (b + k) * sz := Nat.mul_le_mul_right _ (by omega)
     rw [Nat.succ_mul] at this
     omega
    ·have : (b + k + 1) * sz ≤ (b + q) * sz := Nat.mul_le_mul_right _ (by omega)
     rw [Nat.succ_mul] at this
     omega
end
end Go.Proofs.YtplgphblmeceoaaGreatDoor.Eng
set_option linter.unusedVariables false
set_option linter.unusedSimpArgs false
namespace Go.Proofs.YtplgphblmeceoaaGreatDoor.Eng
open Go Go.RowKit
section
variable {P : Program} {T : Tab} {X : Ctx} {σ σ' : Nat → Option Blk} {F F' : Nat → Prop} {s s' : St} {a : Act} {w w' : World} {o : Oper} {c : Prop} {x : AV} {v : Value} {K : St → Prop}
theorem RepV.mpv {es : List (ByteArray × Value)} {y : Value} (h : RepV σ F w (.mp es) y) : RepF F w (.mp es) y := by
 cases h with
 | f _ _ h => exact h
theorem Ziy {t kt et : Nat} {y : Operand} (ho : o.op = .range t y) (ht : P.underlying t = some (.map kt et)) {es : List (ByteArray × Value)} (hy : s.ev y = .mp es) (hd : dOK X.n o.dst)
  (hK : K (St.put { s with heap := s.heap ++ [.iter none es] } o.dst (.nm s.heap.length []))) : opWPG P X o K s := by
 refine opWPG.mem (fun σ F a w hr => ?_) hd
 have hv := RepV.mpv (hy ▸ hr.ev y)
 have fin : ∀ (om : Option Nat) (c : Nat), (execOp a.eval o).run P w = .ok (.value (.pointer (some ⟨w.heap.size, 0, none⟩))) (w.alloc (.mapIter om c #[] c)) → IterIs F (w.alloc (.mapIter om c #[] c)) om c #[] c none es →
   ∃ v w' σ' F' s' x, (execOp a.eval o).run P w = .ok (.value v) w' ∧ Grow w w' ∧ RepAt X σ' F' s' a w' ∧ RepV σ' F' w' x v ∧ K (s'.put o.dst x) := by
  intro om c hrun hit
  refine ⟨.pointer (some ⟨w.heap.size, 0, none⟩), _, _, F, _, _, hrun, Grow.alloc w _, (hr.ext (Ext.alloc w (.mapIter om c #[] c))).new (k := .ext (fun h => h = w.heap.size) fun _ => .pointer (some ⟨w.heap.size, 0, none⟩)) (ob := .iter none es) ?_ (fun g hg => ?_), ?_, hK⟩
  ·exact ⟨w.heap.size, om, c, #[], c, Z7 _ _ _, heap_alloc_new w _, hit⟩
  ·have e1 : g = w.heap.size := hg
   subst e1
   refine ⟨by simp, fun hF => ?_, hr.keep.size, fun id h => ?_⟩
   ·have := hr.heap.flt _ hF; omega
   ·have := (hr.heap.lt _ _ h).1; omega
  ·exact .nm s.heap.length [] _ _ (Z7 _ _ _) rfl
 generalize hyv : a.eval y = yv at hv
 cases hv with
 | mp0 =>
  refine fin none 0 ?_ (.inl ⟨rfl, rfl, rfl⟩)
  simp only [execOp, ho, hyv, Sem.run_bind, run_range_nilMap w t kt et ht, Result.andThen_ok]
  rfl
 | mp es g arr clock hF hg hm =>
  have hgl : g < w.heap.size := hr.heap.flt g hF
  refine fin (some g) clock ?_ ?_
  ·simp only [execOp, ho, hyv, Sem.run_bind, run_range_map w t kt et g arr clock ht hg, Result.andThen_ok]
   rfl
  ·obtain ⟨⟨es0, h1, h2⟩, h3, h4, h5⟩ := hm
   refine .inr ⟨g, arr, clock, rfl, hF, ((MapKept.heap_alloc w _).2 g hgl).trans hg, h4, h5, rfl, rfl, fun l h => (by cases h), es0, ?_, h2⟩
   rw [← h1]
   congr 1
   simp [leftOf]
theorem Zaz (σ : Nat → Option Blk) (id : Nat) : upd σ id (σ id) = σ := by
 funext i
 by_cases e : i = id
 ·subst e; exact Z7 _ _ _
 ·exact Zg _ _ e
theorem op_next {y : Operand} (ho : o.op = .next y false) {id : Nat} {k : List Nat} (hy : s.ev y = .nm id k) {last : Option (ByteArray × Value)} {es : List (ByteArray × Value)} (hq : s.heap[id]? = some (.iter last es)) (hd : dOK X.n o.dst)
  (h0 : es = [] → K (s.put o.dst (.tup [.v (.bool false)])))
  (h1 : ∀ e rest, List.Perm (e :: rest) es → K (St.put { s with heap := s.heap.set id (.iter (some e) rest) } o.dst (.tup [.v (.bool true), .v (.string e.1), .v e.2]))) : opWP P X o K s := by
 rintro Qc nx a w hn ⟨σ, F, hr⟩
 obtain ⟨g, om, since, seen, c0, h2, h3, h4⟩ := hr.heap.obj id _ hq
 obtain ⟨gs, V, h5, h6⟩ := RepV.nmv (hy ▸ hr.ev y)
 rw [h2] at h5
 cases h5
 have hid : id < s.heap.length := (List.getElem?_eq_some_iff.1 hq).1
 have hown : hasB σ id g := ⟨_, h2, rfl⟩
 unfold Oper.wp
 have done : es = [] → (Instr.next (.pointer (some ⟨g, 0, none⟩)) false o.type).run P w = .ok (.tuple #[.bool false]) w → (match (execOp a.eval o).run P w with | _ => True) → (execOp a.eval o).run P w = .ok (.value (.tuple #[.bool false])) w := by
  intro _ hrun _
  simp [execOp, ho, h6, hrun, Sem.run_bind, Result.andThen]
 rcases h4 with ⟨rfl, rfl, rfl⟩ | ⟨m, arr, clock, rfl, hFm, hm, hnd, hborn, rfl, rfl, hlast, es0, hes0, hperm⟩
 ·have hrun : (Instr.next (.pointer (some ⟨g, 0, none⟩)) false o.type).run P w = .ok (.tuple #[.bool false]) w := by
   simp only [Instr.next, getObj, Sem.run_bind, Sem.run, h3, Result.andThen]
   rfl
  rw [done rfl hrun trivial]
  refine hn _ _ _ (h0 rfl) ⟨σ, F, hr.put hd (.tup _ [.bool false] rfl (fun j x u hx hu => ?_))⟩
  match j with
  | 0 => simp at hx hu; subst hx hu; exact .f _ _ (.v _)
  | j + 1 => simp at hx
 ·rcases run_next_at (P := P) w o.type g m c0 c0 seen arr c0 h3 hm hborn (Nat.le_refl _) with ⟨hz, hrun⟩ | ⟨e, he, w1, hal, hrun⟩
  ·have hnil : es = [] := by
    have : (leftOf arr seen).toList = [] := by
     apply List.eq_nil_of_length_eq_zero
     simpa using hz
    rw [this] at hes0
    have h7 : es0 = [] := by
     cases es0 with
     | nil => rfl
     | cons _ _ => simp at hes0
    subst h7
    exact List.nil_perm.1 hperm
   rw [done hnil hrun trivial]
   refine hn _ _ _ (h0 hnil) ⟨σ, F, hr.put hd (.tup _ [.bool false] rfl (fun j x u hx hu => ?_))⟩
   match j with
   | 0 => simp at hx hu; subst hx hu; exact .f _ _ (.v _)
   | j + 1 => simp at hx
  ·
   have heK : ∃ p ∈ es0, Z40 e = pairK p := by
    have : Z40 e ∈ es0.map pairK := by rw [← hes0]; exact List.mem_map_of_mem he
    obtain ⟨p, hp, hpe⟩ := List.mem_map.1 this
    exact ⟨p, hp, hpe.symm⟩
   have hearr : e ∈ arr.toList := by
    unfold leftOf at he
    simp at he ⊢
    exact he.1
   obtain ⟨l1, l2, hl⟩ := List.append_of_mem he
   have hsub : (leftOf arr seen).toList.Sublist arr.toList := by
    unfold leftOf
    rw [Array.toList_filter]
    exact List.filter_sublist
   have hndl : ((leftOf arr seen).toList.map (·.born)).Nodup := hnd.sublist (hsub.map _)
   have hleft : (leftOf arr (seen.push e.born)).toList = l1 ++ l2 := by
    have h8 : (leftOf arr (seen.push e.born)).toList = (leftOf arr seen).toList.filter fun x => !(x.born == e.born) := by
     unfold leftOf
     rw [Array.toList_filter, Array.toList_filter, List.filter_filter]
     apply List.filter_congr
     intro x _
     rw [Array.contains_push]
     cases seen.contains x.born <;> cases (x.born == e.born) <;> rfl
    rw [h8, hl]
    rw [hl, List.map_append, List.map_cons, List.nodup_append, List.nodup_cons] at hndl
    rw [List.filter_append, List.filter_cons_of_neg (by simp)]
    congr 1
    ·refine List.filter_eq_self.2 fun x hx => ?_
     have h9 := hndl.2.2 x.born (List.mem_map_of_mem hx) e.born (List.mem_cons_self ..)
     simpa using h9
    ·refine List.filter_eq_self.2 fun x hx => ?_
     have h9 : ¬ e.born = x.born := fun h => hndl.2.1.1 (h ▸ List.mem_map_of_mem hx)
     have h10 : ¬ x.born = e.born := fun h => h9 h.symm
     simpa using h10
   rw [hl, List.map_append, List.map_cons] at hes0
   obtain ⟨q1, q2, rfl, hq1, hq2⟩ := List.map_eq_append_iff.1 hes0.symm
   obtain ⟨p, q3, rfl, hp, hq3⟩ := List.map_eq_cons_iff.1 hq2
   have hperm2 : List.Perm (p :: (q1 ++ q3)) es := (List.perm_middle.symm).trans hperm
   have hw1 : w1.heap = w.heap ∧ w1.os = w.os ∧ w1.tape = w.tape ∧ w1.output = w.output := by
    rcases hal with rfl | rfl <;> exact ⟨rfl, rfl, rfl, rfl⟩
   let w2 : World := ChangeMaps.setBlock w1 g (.mapIter (some m) c0 (seen.push e.born) c0)
   have hgl : g < w.heap.size := (hr.heap.lt _ _ hown).1
   have hb1 : w2.heap[g]? = some (.mapIter (some m) c0 (seen.push e.born) c0) := by
    simp only [w2, ChangeMaps.setBlock, hw1.1]
    rw [Array.getElem?_setIfInBounds_self_of_lt hgl]
   have hb2 : ∀ b, b ≠ g → w2.heap[b]? = w.heap[b]? := fun b hb => by
    simp only [w2, ChangeMaps.setBlock, hw1.1]
    rw [Array.getElem?_setIfInBounds_ne (fun e => hb e.symm)]
   have hsz : w2.heap.size = w.heap.size := by simp [w2, ChangeMaps.setBlock, hw1.1]
   have hFF : ∀ b, F b → w2.heap[b]? = w.heap[b]? := fun b hb => hb2 b (fun e => (hr.heap.lt _ _ hown).2 (e ▸ hb))
   have hch := hr.change (w' := w2) (F' := F) hid (k := σ id) (f := _root_.id) (ob := .iter (some p) (q1 ++ q3)) hw1.2.1 hw1.2.2.1 hw1.2.2.2 (Nat.le_of_eq hsz.symm) (fun g' _ hn => hb2 g' (fun e => hn (e ▸ hown))) (fun _ h => h) (fun _ h => .inl h)
    (fun q g' hq' hg' => by
     have hb : hasB σ id g' := ⟨q, hq', hg'⟩
     exact ⟨by rw [hsz]; exact (hr.heap.lt _ _ hb).1, (hr.heap.lt _ _ hb).2, .inl hb⟩)
    (fun i sz off len y h => by rw [Zaz]; exact h.mono (fun _ h => h) hFF)
    (fun i q sz j y h => by rw [Zaz]; exact h.mono (fun _ h => h) hFF)
    (fun i q y h => by rw [Zaz]; exact h.mono (fun _ h => h) hFF)
    (fun _ => .inl rfl) (by
     rw [Zaz]
     refine ⟨g, some m, c0, seen.push e.born, c0, h2, hb1, .inr ⟨m, arr, c0, rfl, hFm, (hFF m hFm).trans hm, hnd, hborn, rfl, rfl, fun l hl' => ?_, q1 ++ q3, ?_, .refl _⟩⟩
     ·cases hl'
      exact ⟨e, hearr, seen, rfl, hp.symm⟩
     ·rw [hleft, List.map_append, List.map_append, hq1, hq3])
   rw [Z5k, Zbu, Zaz] at hch
   have hrun2 : (execOp a.eval o).run P w = .ok (.value (.tuple #[.bool true, .string p.1, p.2])) w2 := by
    have hk : e.key = .string p.1 ∧ e.val = p.2 := by
     have h9 : Z40 e = pairK p := hp.symm
     simp only [Z40, pairK, Prod.mk.injEq] at h9
     exact h9
    simp [execOp, ho, h6, hrun, Sem.run_bind, Result.andThen, hk.1, hk.2, w2]
   rw [hrun2]
   refine hn _ _ _ (h1 p (q1 ++ q3) hperm2) ⟨σ, F, hch.put hd (.tup _ [.bool true, .string p.1, p.2] rfl (fun j x u hx hu => ?_))⟩
   match j with
   | 0 => simp at hx hu; subst hx hu; exact .f _ _ (.v _)
   | 1 => simp at hx hu; subst hx hu; exact .f _ _ (.v _)
   | 2 => simp at hx hu; subst hx hu; exact .f _ _ (.v _)
   | j + 3 => simp at hx
end
end Go.Proofs.YtplgphblmeceoaaGreatDoor.Eng
set_option linter.unusedVariables false
set_option linter.unusedSimpArgs false
namespace Go.Proofs.YtplgphblmeceoaaGreatDoor.Eng
open Go Go.RowKit
section
variable {P : Program} {T : Tab} {X : Ctx} {σ σ' : Nat → Option Blk} {F F' : Nat → Prop} {s s' : St} {a a' : Act} {w w' : World} {o : Oper} {c : Prop} {x : AV} {v : Value} {K : St → Prop}
def aside (X : Ctx) (σ : Nat → Option Blk) (F : Nat → Prop) (w : World) (id : Nat) : Ctx := ⟨X.n, w, fun g => ∃ i, i ≠ id ∧ hasB σ i g, F, 0, fun _ => none, X.ro, X.rf⟩
theorem RepAt.aside (hr : RepAt X σ F s a w) (hmk : X.rf = false) {id : Nat} (hid : id < s.heap.length) : RepAt (Eng.aside X σ F w id) (upd σ id none) F ⟨Z14 (Zh id) s.env, (s.heap.map (AObj.sub (Zh id))).set id .dead⟩ a w := by
 have h1 := hr.change (w' := w) (F' := F) (k := none) (f := Zh id) (ob := .dead) hid rfl rfl rfl (Nat.le_refl _) (fun _ _ _ => rfl) (fun _ h => h) (fun _ h => .inl h) (fun q g h => by cases h) Z7z Z7y Z3j (fun _ => .inr rfl) (Z7 _ _ _)
 refine ⟨(by have := h1.defers; rw [hmk] at this; rw [show (Eng.aside X σ F w id).rf = X.rf from rfl, hmk]; exact this), h1.size, h1.env, h1.heap, Keep.refl _ _, fun i g h => .inl ?_, fun b h => .inl h, fun i hi => absurd hi (Nat.not_lt_zero _), Nat.zero_le _⟩
 by_cases e : i = id
 ·subst e
  obtain ⟨q, h2, _⟩ := Z5h.1 h
  cases h2
 ·exact ⟨i, e, (Z4g e).1 h⟩
theorem RepAt.again (hr : RepAt X σ F s a w) (hmk : X.rf = false) (hm : X.m = 0) {id : Nat} {k : Blk} (hk : σ id = some k) (hr' : RepAt (Eng.aside X σ F w id) σ' F' s' a' w') (hd : s'.heap[id]? = some .dead) {ob : AObj}
  (hob : (∀ b, F b → (F b ∨ F' b) ∧ w'.heap[b]? = w.heap[b]?) → (∀ g, k.has g → w'.heap[g]? = w.heap[g]?) → RepO (upd σ' id (some k)) (fun b => F b ∨ F' b) w' id ob) :
  RepAt X (upd σ' id (some k)) (fun b => F b ∨ F' b) { s' with heap := s'.heap.set id ob } a' w' := by
 have hnone : σ' id = none := hr'.heap.obj id _ hd
 have hid : id < s'.heap.length := (List.getElem?_eq_some_iff.1 hd).1
 have hMn : ∀ g, hasB σ id g → ¬ (Eng.aside X σ F w id).M g := fun g hg ⟨i, hi, h⟩ => hi (hr.heap.inj _ _ _ h hg)
 have hkb : ∀ g, k.has g → hasB σ id g := fun g h => ⟨k, hk, h⟩
 have hsz : w.heap.size ≤ w'.heap.size := hr'.keep.size
 have hFw : ∀ b, F b → w'.heap[b]? = w.heap[b]? := fun b hb => hr'.keep.block b (hr.heap.flt b hb) (fun ⟨i, _, h⟩ => (hr.heap.lt _ _ h).2 hb)
 have hkw : ∀ g, k.has g → w'.heap[g]? = w.heap[g]? := fun g hg => hr'.keep.block g (hr.heap.lt _ _ (hkb g hg)).1 (hMn g (hkb g hg))
 have hgrow : ∀ i q, σ' i = some q → upd σ' id (some k) i = some q := fun i q h => by
  rw [Zg]
  ·exact h
  ·rintro rfl; rw [hnone] at h; cases h
 have hRV : ∀ x y, RepV σ' F' w' x y → RepV (upd σ' id (some k)) (fun b => F b ∨ F' b) w' x y := fun x y h => (h.mono (fun _ h => .inr h) (fun _ _ => rfl)).grow hgrow
 have hnew : ∀ i g, hasB σ' i g → ¬ k.has g := fun i g h h2 => by
  rcases hr'.own i g h with h3 | h3
  ·exact hMn g (hkb g h2) h3
  ·have := (hr.heap.lt _ _ (hkb g h2)).1
   have h4 : w.heap.size ≤ g := h3
   omega
 have hF2 : ∀ i g, hasB σ' i g → ¬ F g := fun i g h h2 => by
  rcases hr'.own i g h with ⟨j, _, h3⟩ | h3
  ·exact (hr.heap.lt _ _ h3).2 h2
  ·have := hr.heap.flt g h2
   have h4 : w.heap.size ≤ g := h3
   omega
 have hcase : ∀ i g, hasB (upd σ' id (some k)) i g → (i = id ∧ k.has g) ∨ (i ≠ id ∧ hasB σ' i g) := fun i g h => by
  by_cases e : i = id
  ·subst e
   obtain ⟨q, h1, h2⟩ := Z5h.1 h
   cases h1
   exact .inl ⟨rfl, h2⟩
  ·exact .inr ⟨e, (Z4g e).1 h⟩
 refine ⟨(by have := hr'.defers; rw [show (Eng.aside X σ F w id).rf = X.rf from rfl, hmk] at this; rw [hmk]; exact this), hr'.size, fun i => hRV _ _ (hr'.env i), ⟨fun i ob' ho => ?_, fun i hi => ?_, fun i i' g h1 h2 => ?_, fun i g h => ?_, fun b hb => ?_, hr'.heap.lay.mono (fun _ h => .inr h) (fun _ _ => rfl)⟩, ?_, fun i g h => ?_, fun b hb => ?_, fun i hi => absurd hi (by omega), by omega⟩
 ·by_cases e : i = id
  ·subst e
   rw [List.getElem?_set_self hid] at ho
   cases ho
   exact hob (fun b hb => ⟨.inl hb, hFw b hb⟩) hkw
  ·rw [List.getElem?_set_ne (fun h => e h.symm)] at ho
   rw [← AObj.sub_id ob']
   exact (hr'.heap.obj i ob' ho).move (hgrow i) (fun h => by rw [Zg _ _ e]; exact h) (fun x y h => h.mono (fun _ h => .inr h) (fun _ _ => rfl)) (fun b hb => ⟨.inr hb, rfl⟩) (fun _ _ => rfl) (fun x y h => by rw [AV.sub_id]; exact hRV x y h)
 ·have hi' : s'.heap.length ≤ i := by simpa using hi
  rw [Zg _ _ (by omega)]
  exact hr'.heap.out i hi'
 ·rcases hcase _ _ h1 with ⟨rfl, h3⟩ | ⟨_, h3⟩ <;> rcases hcase _ _ h2 with ⟨rfl, h4⟩ | ⟨_, h4⟩
  ·rfl
  ·exact absurd h3 (hnew _ _ h4)
  ·exact absurd h4 (hnew _ _ h3)
  ·exact hr'.heap.inj _ _ _ h3 h4
 ·rcases hcase _ _ h with ⟨rfl, h3⟩ | ⟨_, h3⟩
  ·have hl := hr.heap.lt _ _ (hkb g h3)
   refine ⟨by omega, fun hF => ?_⟩
   rcases hF with hF | hF
   ·exact hl.2 hF
   ·rcases hr'.fnew g hF with h4 | h4 | h4
    ·exact hl.2 h4
    ·exact hMn g (hkb g h3) h4
    ·have h5 : w.heap.size ≤ g := h4
     omega
  ·have hl := hr'.heap.lt _ _ h3
   exact ⟨hl.1, fun hF => hF.elim (hF2 _ _ h3) hl.2⟩
 ·rcases hb with hb | hb
  ·have := hr.heap.flt b hb; omega
  ·exact hr'.heap.flt b hb
 ·refine hr.keep.trans hr'.keep (fun g hg hM => ⟨hM, fun ⟨i, _, h⟩ => ?_⟩)
  rcases hr.own i g h with h1 | h1
  ·exact hM h1
  ·omega
 ·have hs0 := hr.keep.size
  rcases hcase _ _ h with ⟨rfl, h3⟩ | ⟨_, h3⟩
  ·exact hr.own _ _ (hkb g h3)
  ·rcases hr'.own i g h3 with ⟨j, _, h4⟩ | h4
   ·exact hr.own _ _ h4
   ·have h5 : w.heap.size ≤ g := h4
    exact .inr (by omega)
 ·have hs0 := hr.keep.size
  rcases hb with hb | hb
  ·exact hr.fnew b hb
  ·rcases hr'.fnew b hb with h4 | ⟨j, _, h4⟩ | h4
   ·exact hr.fnew b h4
   ·rcases hr.own _ _ h4 with h5 | h5
    ·exact .inr (.inl h5)
    ·exact .inr (.inr h5)
   ·have h5 : w.heap.size ≤ b := h4
    exact .inr (.inr (by omega))
theorem RepAt.leave (hr : RepAt X σ F s a w) (hmk : X.rf = false) (hm : X.m = 0) {id : Nat} (hr' : RepAt (Eng.aside X σ F w id) σ' F' s' a' w') : RepAt X σ' (fun b => F b ∨ F' b) s' a' w' := by
 have hsz : w.heap.size ≤ w'.heap.size := hr'.keep.size
 have hRV : ∀ x y, RepV σ' F' w' x y → RepV σ' (fun b => F b ∨ F' b) w' x y := fun x y h => h.mono (fun _ h => .inr h) (fun _ _ => rfl)
 have hF2 : ∀ i g, hasB σ' i g → ¬ F g := fun i g h h2 => by
  rcases hr'.own i g h with ⟨j, _, h3⟩ | h3
  ·exact (hr.heap.lt _ _ h3).2 h2
  ·have := hr.heap.flt g h2
   have h4 : w.heap.size ≤ g := h3
   omega
 refine ⟨(by have := hr'.defers; rw [show (Eng.aside X σ F w id).rf = X.rf from rfl, hmk] at this; rw [hmk]; exact this), hr'.size, fun i => hRV _ _ (hr'.env i), ⟨fun i ob' ho => ?_, hr'.heap.out, hr'.heap.inj, fun i g h => ?_, fun b hb => ?_, hr'.heap.lay.mono (fun _ h => .inr h) (fun _ _ => rfl)⟩, ?_, fun i g h => ?_, fun b hb => ?_, fun i hi => absurd hi (by omega), by omega⟩
 ·rw [← AObj.sub_id ob']
  exact (hr'.heap.obj i ob' ho).move (fun _ h => h) (fun h => h) (fun x y h => h.mono (fun _ h => .inr h) (fun _ _ => rfl)) (fun b hb => ⟨.inr hb, rfl⟩) (fun _ _ => rfl) (fun x y h => by rw [AV.sub_id]; exact hRV x y h)
 ·have hl := hr'.heap.lt _ _ h
  exact ⟨hl.1, fun hF => hF.elim (hF2 _ _ h) hl.2⟩
 ·rcases hb with hb | hb
  ·have := hr.heap.flt b hb; omega
  ·exact hr'.heap.flt b hb
 ·refine hr.keep.trans hr'.keep (fun g hg hM => ⟨hM, fun ⟨i, _, h⟩ => ?_⟩)
  rcases hr.own i g h with h1 | h1
  ·exact hM h1
  ·omega
 ·have hs0 := hr.keep.size
  rcases hr'.own i g h with ⟨j, _, h4⟩ | h4
  ·exact hr.own _ _ h4
  ·have h5 : w.heap.size ≤ g := h4
   exact .inr (by omega)
 ·have hs0 := hr.keep.size
  rcases hb with hb | hb
  ·exact hr.fnew b hb
  ·rcases hr'.fnew b hb with h4 | ⟨j, _, h4⟩ | h4
   ·exact hr.fnew b h4
   ·rcases hr.own _ _ h4 with h5 | h5
    ·exact .inr (.inl h5)
    ·exact .inr (.inr h5)
   ·have h5 : w.heap.size ≤ b := h4
    exact .inr (.inr (by omega))
theorem RepAt.know {d : Nat} (hr : RepAt X σ F s a w) (hv : RepV σ F w x (a.tmps.getD d undef)) : RepAt X σ F ⟨(d, x) :: s.env, s.heap⟩ a w :=
 ⟨hr.defers, hr.size, fun i => by
  simp only [envGet]
  split
  ·rename_i h; subst h; exact hv
  ·exact hr.env i, hr.heap, hr.keep, hr.own, hr.fnew, hr.stab, hr.hm⟩
end
end Go.Proofs.YtplgphblmeceoaaGreatDoor.Eng
set_option linter.unusedVariables false
set_option linter.unusedSimpArgs false
namespace Go.Proofs.YtplgphblmeceoaaGreatDoor.Eng
open Go Go.RowKit
structure CutPair (P : Program) (f k : Nat) (xs ys : List (List Value)) (m : Nat) : Prop where
 len : ys.length = xs.length
 le : m ≤ xs.length
 size : ∀ c ∈ ys, c.length = k
 one : ∀ c ∈ ys, ∀ v ∈ c, v.oneCell' = true
 atNone : xs = [] → ∀ (p : Option Addr) (cap : Nat) (w : World), Calls P f #[.slice p 0 cap] w fun e w' => e = .returned (.slice p 0 cap) ∧ w' = w
 atSome : xs ≠ [] → ∀ (blk off cap : Nat) (w : World), Sort.Holds id w blk off xs.flatten.toArray → blk < w.heap.size → xs.length ≤ cap → Calls P f #[.slice (some ⟨blk, off, none⟩) xs.length cap] w fun e w' => e = .returned (.slice (some ⟨blk, off, none⟩) m cap) ∧ ∃ n os, w' = Sort.grow (Sort.putRow id (Sort.ahead w n) blk off ys.flatten.toArray) os
section
variable {P : Program} {T : Tab} {X : Ctx} {σ σ' : Nat → Option Blk} {F F' : Nat → Prop} {s s' : St} {a : Act} {w w' : World} {o : Oper} {c : Prop} {x : AV} {v : Value} {K : St → Prop}
theorem op_cut {fop : Operand} {y : Operand} {ar : Array Operand} {ts : Array Nat} (ho : o.op = .call { callee := .value fop, args := ar, argTypes := ts }) (har : ar.toList = [y]) {f k m : Nat} (hf : s.ev fop = .fn f []) (hE : Enters P f) {xs ys : List (List Value)} (hp : CutPair P f k xs ys m)
  (hk : ∀ c ∈ xs, c.length = k) {id e0 : Nat} (hy : s.ev y = .own id k 0 xs.length) (hq : s.heap[id]? = some (.row e0 k (rowV xs))) (hd : dOK X.n o.dst) (hK : K (St.put ⟨s.env, s.heap.set id (.row e0 k (rowV ys))⟩ o.dst (.own id k 0 m))) : opWP P X o K s := by
 rintro Qc next a w hn ⟨σ, F, hr⟩
 have hid : id < s.heap.length := (List.getElem?_eq_some_iff.1 hq).1
 obtain ⟨us, hfv, hul, _⟩ := RepV.fnv (hf ▸ hr.ev fop)
 obtain rfl : us = [] := List.eq_nil_of_length_eq_zero hul.symm
 have hva : ar.map a.eval ++ #[] = #[a.eval y] := by
  apply Array.ext'
  simp [har]
 have hrun : (execOp a.eval o).run P w = .ok (.enter f (#[a.eval y])) w := by
  simp [execOp, ho, resolve, hfv, Deferred.ofValue, invoke, hE (#[a.eval y]) w]
  simpa using hva ▸ hE (#[a.eval y]) w
 obtain ⟨q, h1, h2⟩ := Zd3 (hr.heap.obj id _ hq)
 have h3 := Zh4 (hy ▸ hr.ev y) h1
 unfold Oper.wp
 rw [hrun]
 show Calls P f (#[a.eval y]) w _
 have hrl : (rowV xs).length = xs.length := by simp [rowV]
 by_cases h0 : xs = []
 ·obtain ⟨A, cap, hv⟩ := h3.slice
  rw [hv]
  have hys : ys = [] := List.eq_nil_of_length_eq_zero (by rw [hp.len, h0]; rfl)
  rw [h0]
  refine (hp.atNone h0 A cap w).mono ?_
  rintro e w' ⟨rfl, rfl⟩
  have hsame : s.heap.set id (.row e0 k (rowV ys)) = s.heap := by
   rw [hys, ← h0]
   apply List.ext_getElem?
   intro j
   by_cases hj : id = j
   ·subst hj; rw [List.getElem?_set_self hid, hq]
   ·rw [List.getElem?_set_ne hj]
  rw [hsame] at hK
  have hm0 : m = 0 := by have := hp.le; rw [h0] at this; exact Nat.le_zero.1 this
  have hvy : RepV σ F w' (.own id k 0 m) (.slice A 0 cap) := by
   have h7 := hy ▸ hr.ev y
   rw [hv, h0] at h7
   rw [hm0]
   exact h7
  exact hn _ _ _ hK ⟨σ, F, hr.put hd hvy⟩
 ·have hpos : 0 < xs.length := List.length_pos_iff.2 h0
  obtain ⟨gb, b, c, rfl⟩ := h2.pos (by rw [hrl]; exact hpos)
  rw [hrl] at h1 h2 h3
  have hv := h3.at hpos
  rw [hv]
  obtain ⟨_, h4, h5, cur, h6, h7, h8, h9⟩ := h2.at
  rw [hrl] at h4
  have hlt := hr.heap.lt _ _ (.at h1)
  have hfl := Z2g hk
  have hkpos : ∀ t, t < xs.length * k → 0 < k := fun t ht => by
   rcases Nat.eq_zero_or_pos k with h | h
   ·rw [h, Nat.mul_zero] at ht; omega
   ·exact h
  have hcell : ∀ t, t < xs.length * k → ∃ u, cur[b * k + t]? = some u ∧ xs.flatten[t]? = some u := fun t ht => by
   obtain ⟨i, j, hi, hj, rfl⟩ := Zt ht
   have hi2 := List.getElem?_eq_getElem hi
   have hcl := hk _ (List.getElem_mem hi)
   have hj2 : j < (xs[i]).length := by rw [hcl]; exact hj
   obtain ⟨u, k1, k2, k3⟩ := h9 i (xs[i].map .v) j (.v xs[i][j]) (by unfold rowV; rw [List.getElem?_map, hi2]; rfl) (by rw [List.getElem?_map, List.getElem?_eq_getElem hj2]; rfl)
   have hu : u = xs[i][j] := by cases k3; rfl
   refine ⟨u, ?_, ?_⟩
   ·rw [← k1, Nat.add_mul]; congr 1; omega
   ·rw [Z2h hk hi2 hj, List.getElem?_eq_getElem hj2, hu]
  have hH : Sort.Holds _root_.id w gb (b * k) xs.flatten.toArray := fun t ht => by
   have ht' : t < xs.length * k := by simpa [hfl] using ht
   obtain ⟨u, k1, k2⟩ := hcell t ht'
   have k3 : xs.flatten.toArray[t]! = u := by
    rw [getElem!_pos _ t ht]
    have : xs.flatten.toArray[t]? = some u := by simpa using k2
    rw [Array.getElem?_eq_getElem ht] at this
    exact Option.some.inj this
   refine ⟨?_, ?_⟩
   ·rw [k3]
    simp only [World.cell?, h6]
    simpa using k1
   ·simp [World.frozen?, h6]
  refine (hp.atSome h0 gb (b * k) c w hH hlt.1 h4).mono ?_
  rintro e w' ⟨rfl, n, os, rfl⟩
  have hyl : ys.flatten.length = xs.length * k := by rw [Z2g hp.size, hp.len]
  let Y := ys.flatten.toArray
  let cur' := Sort.putCells _root_.id (b * k) Y cur
  have hw1 : (Sort.putRow _root_.id (Sort.ahead w n) gb (b * k) Y).heap[gb]? = some (.cells cur' e0 (0, 0)) := by
   simp only [Sort.putRow, Sort.mapBlock, Array.getElem?_modify, if_true]
   rw [show (Sort.ahead w n).heap = w.heap from rfl, h6]
   rfl
  have hsz : (Sort.putRow _root_.id (Sort.ahead w n) gb (b * k) Y).heap.size = w.heap.size := by simp
  have hw : (Sort.grow (Sort.putRow _root_.id (Sort.ahead w n) gb (b * k) Y) os).heap[gb]? = some (.cells cur' e0 (0, 0)) := by
   rw [Sort.heap_grow_old _ _ (by rw [hsz]; exact hlt.1)]; exact hw1
  have hcs : cur'.size = cur.size := by simp [cur', Sort.putCells]
  have hget : ∀ t, t < xs.length * k → ∀ u, ys.flatten[t]? = some u → cur'[b * k + t]? = some u := fun t ht u hu => by
   obtain ⟨u0, k1, _⟩ := hcell t ht
   simp only [cur', Sort.putCells, Array.getElem?_mapIdx, k1, Option.map_some]
   rw [if_pos ⟨by omega, by simp only [Y, List.size_toArray, hyl]; omega⟩, show b * k + t - b * k = t by omega]
   have htl : t < Y.size := by simp only [Y, List.size_toArray, hyl]; exact ht
   have : Y[t]? = some u := by simpa [Y] using hu
   rw [getElem!_pos Y t htl]
   rw [Array.getElem?_eq_getElem htl] at this
   exact congrArg some (Option.some.inj this)
  refine hn _ _ _ hK ⟨σ, F, (hr.turnObj (w' := Sort.grow (Sort.putRow _root_.id (Sort.ahead w n) gb (b * k) Y) os) (ob := .row e0 k (rowV ys)) hid h1 rfl rfl rfl ?_ (fun g' hg' hne => ?_) ?_).put hd (by simpa using RepV.own (σ := σ) (F := F) id k 0 m gb b c xs.length h1 (by rw [Nat.zero_add]; exact hp.le) h4)⟩
  ·show w.heap.size ≤ ((Sort.putRow _root_.id (Sort.ahead w n) gb (b * k) Y).heap ++ os).size
   rw [Array.size_append, hsz]; omega
  ·rw [Sort.heap_grow_old _ _ (by rw [hsz]; exact hg')]
   simp only [Sort.putRow, Sort.mapBlock, Array.getElem?_modify]
   rw [if_neg (fun e => hne e.symm)]
   rfl
  ·have hyr : (rowV ys).length = xs.length := by simp [rowV, hp.len]
   refine .inr ⟨gb, b, c, cur', by rw [hyr]; exact h1, by rw [hyr]; exact h4, h5, hw, by rw [hcs]; exact h7, fun cs hcs' => ?_, fun i cs j x hi hj => ?_⟩
   ·obtain ⟨i, hi⟩ := List.getElem?_of_mem hcs'
    obtain ⟨c', k1, rfl⟩ := Z70 hi
    rw [List.length_map]; exact hp.size c' (List.mem_of_getElem? k1)
   ·obtain ⟨c', k1, rfl⟩ := Z70 hi
    rw [List.getElem?_map, Option.map_eq_some_iff] at hj
    obtain ⟨u, k2, rfl⟩ := hj
    have hcl := hp.size c' (List.mem_of_getElem? k1)
    have hj' : j < k := by have := (List.getElem?_eq_some_iff.1 k2).1; omega
    have hi' : i < xs.length := by have := (List.getElem?_eq_some_iff.1 k1).1; rw [hp.len] at this; exact this
    have htl : i * k + j < xs.length * k := by
     have : (i + 1) * k ≤ xs.length * k := Nat.mul_le_mul_right _ hi'
     rw [Nat.succ_mul] at this; omega
    refine ⟨u, ?_, hp.one c' (List.mem_of_getElem? k1) u (List.mem_of_getElem? k2), .v _⟩
    rw [Nat.add_mul, Nat.add_assoc]
    exact hget _ htl u ((Z2h hp.size k1 hj').trans k2)
theorem Rep.takeRow {s : St} (hr : Rep X s a w) {i id e sz len : Nat} {es : List (List AV)} (hi : envGet s.env i = .own id sz 0 len) (hq : s.heap[id]? = some (.row e sz es)) (hf : len ≤ es.length) (hm : X.m ≤ id) :
  Rep X ⟨(i, .own id sz 0 len) :: Z14 (Zh id) s.env, (s.heap.map (AObj.sub (Zh id))).set id (.row e sz (es.take len))⟩ a w := by
 obtain ⟨σ, F, hr⟩ := hr
 have hid : id < s.heap.length := (List.getElem?_eq_some_iff.1 hq).1
 have hob := hr.heap.obj id _ hq
 have hv := hi ▸ hr.env i
 have hRF : ∀ x y, RepF F w x y → RepF F w x y := fun x y h => h
 have fin : ∀ (k : Option Blk), (∀ q g, k = some q → q.has g → g < w.heap.size ∧ ¬ F g ∧ (hasB σ id g ∨ w.heap.size ≤ g)) → RepO (upd σ id k) F w id (.row e sz (es.take len)) → RepV (upd σ id k) F w (.own id sz 0 len) (a.tmps.getD i undef) →
   Rep X ⟨(i, .own id sz 0 len) :: Z14 (Zh id) s.env, (s.heap.map (AObj.sub (Zh id))).set id (.row e sz (es.take len))⟩ a w := by
  intro k hk hO hV
  have h1 := hr.change (w' := w) (F' := F) (f := Zh id) hid (k := k) rfl rfl rfl (Nat.le_refl _) (fun _ _ _ => rfl) (fun _ h => h) (fun _ h => .inl h) hk (Z5f hRF) (Z5e hRF) Z3j (fun h => absurd h (Nat.not_lt.2 hm)) hO
  refine ⟨_, F, h1.defers, h1.size, fun j => ?_, h1.heap, h1.keep, h1.own, h1.fnew, h1.stab, h1.hm⟩
  simp only [envGet]
  split
  ·rename_i e; subst e; exact hV
  ·exact h1.env j
 have htl : (es.take len).length = len := by rw [List.length_take]; omega
 rcases RepV.ownv hv with ⟨h1, _, h0, h2⟩ | ⟨g, b, c, n, h1, hn, hc, h2⟩
 ·subst h0
  refine fin (some .nil) (fun q g h hg => by cases h; exact hg.elim) (.inl ⟨Z7 _ _ _, by simp⟩) ?_
  rw [h2]; exact .own0 _ _ (Z7 _ _ _)
 ·rcases hob with ⟨h3, _⟩ | ⟨g', b', c', cur, h3, h4, h5, h6, h7, h8, h9⟩
  ·rw [h1] at h3; cases h3
  ·rw [h1] at h3
   injection h3 with h3
   injection h3 with e1 e2 e3 e4
   subst e1 e2 e3
   have hlt := hr.heap.lt _ _ (.at h1)
   refine fin (some (.at_ g b c len)) (fun q1 g1 h hg1 => ?_) (.inr ⟨g, b, c, cur, ?_, ?_, h5, h6, h7, fun cs hcs => h8 cs (List.mem_of_mem_take hcs), fun j cs q x hj hx => ?_⟩) ?_
   ·cases h
    have e1 : g1 = g := hg1
    subst e1
    exact ⟨hlt.1, hlt.2, .inl (.at h1)⟩
   ·rw [Z7, htl]
   ·rw [htl]; omega
   ·rw [List.getElem?_take] at hj
    split at hj
    ·exact h9 j cs q x hj hx
    ·cases hj
   ·rcases h2 with h2 | ⟨h2, h3, h10, A, h11⟩
    ·rw [h2]
     exact RepV.own (σ := upd σ id (some (.at_ g b c len))) (F := F) (w := w) id sz 0 len g b c len (Z7 _ _ _) (by omega) (by omega)
    ·subst h2
     rw [h11]
     exact .ownz _ _ _ g b c 0 A (Z7 _ _ _) rfl (by omega)
end
end Go.Proofs.YtplgphblmeceoaaGreatDoor.Eng
set_option linter.unusedVariables false
set_option linter.unusedSimpArgs false
namespace Go.Proofs.YtplgphblmeceoaaGreatDoor.Eng
open Go Go.RowKit
def Says (keep : List Nat) (h : List AObj) (args : List AV) (h0 : List AObj) (args' : List AV) : Prop :=
 args'.length = args.length ∧ h0.length = keep.length ∧ ∀ (σ : Nat → Option Blk) (F : Nat → Prop) (w : World), HRep σ F w h → HRep (selσ keep σ) F w h0 ∧ ∀ (j : Nat) (x x' : AV) (v : Value), args[j]? = some x → args'[j]? = some x' → RepV σ F w x v → RepV (selσ keep σ) F w x' v
section
variable {P : Program} {T : Tab} {X : Ctx} {σ σ' : Nat → Option Blk} {F F' : Nat → Prop} {s s' : St} {a : Act} {w w' : World} {o : Oper} {c : Prop} {x : AV} {v : Value} {K : St → Prop}
end
end Go.Proofs.YtplgphblmeceoaaGreatDoor.Eng
set_option linter.unusedVariables false
set_option linter.unusedSimpArgs false
namespace Go.Proofs.YtplgphblmeceoaaGreatDoor.Eng
open Go Go.RowKit
def Zke (S : Nat → List AV → Prop) : List Nat → List AV → Prop
 | [], xs => xs = []
 | t :: ts, xs => ∃ a b, xs = a ++ b ∧ S t a ∧ Zke S ts b
def ShapeC (T : Tab) : Nat → Nat → List AV → Prop
 | 0, _, _ => False
 | m + 1, t, xs => match T t with
  | some ⟨.int k, _, _, _⟩ => ∃ n, xs = [.v (.int k n)] ∧ (Lit.int k n).wf = true
  | some ⟨.bool, _, _, _⟩ => ∃ b, xs = [.v (.bool b)]
  | some ⟨.str, _, _, _⟩ => ∃ s : ByteArray, xs = [.v (.string s)] ∧ s.size ≤ reachBytes
  | some ⟨.slice e, _, _, _⟩ => match T e with
   | some i => ∃ es, xs = [.ro i.size es] ∧ es.length * i.bytes ≤ reachBytes ∧ ∀ c ∈ es, ShapeC T m e c
   | none => False
  | some ⟨.struct fs, _, _, _⟩ => Zke (ShapeC T m) (fs.map (·.2)) xs
  | _ => False
section
variable {H : Type} {enc : TypeId × Value → H} {P : Program} {T : Tab} {w : World} {sp : Nat → Bool} {held : Bool}
theorem TIOk.cellsOf {t : Nat} {i : TI} (h : TIOk P t i) : P.cellsOf t = i.size ∧ P.bytesOf t = i.bytes := by
 obtain ⟨x, hx, hh⟩ := Option.map_eq_some_iff.1 h.info
 simp only [Prod.mk.injEq] at hh
 simp [Program.cellsOf, Program.bytesOf, hx, hh.2.1, hh.2.2]
abbrev Old (w : World) : Nat → Prop := fun b => b < w.heap.size
end
end Go.Proofs.YtplgphblmeceoaaGreatDoor.Eng
set_option linter.unusedVariables false
set_option linter.unusedSimpArgs false
namespace Go.Proofs.YtplgphblmeceoaaGreatDoor.Eng
open Go Go.RowKit Go.ChangeShapes Go.WideShapes
section
variable {H : Type} {enc : TypeId × Value → H} {P : Program} {T : Tab} {W : World}
theorem ShapeC.one {m t : Nat} {xs : List AV} (h : ShapeC T m t xs) (hns : ∀ fs n b z, T t ≠ some ⟨.struct fs, n, b, z⟩) : ∃ x, xs = [x] := by
 cases m with
 | zero => exact h.elim
 | succ m =>
  unfold ShapeC at h
  split at h
  ·obtain ⟨n, rfl, _⟩ := h; exact ⟨_, rfl⟩
  ·obtain ⟨n, rfl⟩ := h; exact ⟨_, rfl⟩
  ·obtain ⟨n, rfl, _⟩ := h; exact ⟨_, rfl⟩
  ·split at h
   ·obtain ⟨n, rfl, _⟩ := h; exact ⟨_, rfl⟩
   ·exact h.elim
  ·rename_i fs n b z ht
   exact absurd ht (hns fs n b z)
  ·exact h.elim
end
end Go.Proofs.YtplgphblmeceoaaGreatDoor.Eng
