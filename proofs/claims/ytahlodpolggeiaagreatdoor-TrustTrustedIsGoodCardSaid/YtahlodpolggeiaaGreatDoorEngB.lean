/-
  An abstract-state layer over the kit's wp, second part: code, loops, drawn regions, contracts, a law's row. No condition; nothing here is trusted.
-/
import Derived.Test.YtahlodpolggeiaaGreatDoorEngA
import Derived.StillTail
import Derived.OrdersHeld
import Derived.Laws.StructEq
import Derived.Carry
import Derived.MapKept
import Derived.Sort.Grow
import Derived.ChangeArms
import Derived.ChangeOld
import Derived.SizedLaws
import Derived.DataReads
import Derived.WalkKit
import Derived.ProofKit
import Derived.OpenShut
import Derived.ShutString
import Derived.Below
set_option linter.unusedVariables false
set_option linter.unusedSimpArgs false
namespace Go.Proofs.YtahlodpolggeiaaGreatDoor.Eng
open Go Go.RowKit
def lendM (h : List AObj) : AV → AV
 | .nm id k => match k, h[id]? with
  | [], some (.mapo es) => .mp es
  | _, _ => .nm id k
 | x => x
def Z1d (h : List AObj) : AV → AV
 | .own id sz off len => match h[id]? with
  | some (.row _ rs es) => if sz = rs then .ro sz ((es.drop off).take len) else .any
  | _ => .any
 | .ptr id i sz j => match h[id]? with
  | some (.row _ rs es) => if sz = rs then .rp ((getRow es i).drop j) else .any
  | some (.box _ cs) => if i = 0 ∧ (cs.map (AV.sub (lendM h))).all AV.flat = true then .rp ((cs.map (AV.sub (lendM h))).drop j) else .any
  | _ => .any
 | .nm id k => match k, h[id]? with
  | [], some (.mapo es) => .mp es
  | _, _ => .any
 | x => x
mutual
def AV.plain : AV → Bool
 | .any | .v _ => true
 | .tup cs => AV.plainL cs
 | .agg cs => AV.plainL cs
 | _ => false
def AV.plainL : List AV → Bool
 | [] => true
 | x :: r => x.plain && AV.plainL r
end
section
variable {P : Program} {T : Tab} {X : Ctx} {σ σ' : Nat → Option Blk} {F F' : Nat → Prop} {s s' : St} {a : Act} {w w' : World} {o : Oper} {c : Prop} {x : AV} {v : Value} {K : St → Prop}
theorem AV.plainL_get : ∀ {l : List AV} {j : Nat} {x : AV}, AV.plainL l = true → l[j]? = some x → x.plain = true
 | y :: r, 0, x, h, hx => by simp at hx; subst hx; simp only [AV.plainL, Bool.and_eq_true] at h; exact h.1
 | y :: r, j + 1, x, h, hx => by simp only [AV.plainL, Bool.and_eq_true] at h; exact AV.plainL_get h.2 (by simpa using hx)
theorem RepV.plain (h : RepV σ F w x v) : x.plain = true → RepV σ' F' w' x v := by
 induction h with
 | f x y h =>
  intro hp
  cases h with
  | any => exact .f _ _ (.any _)
  | v => exact .f _ _ (.v _)
  | _ => simp [AV.plain] at hp
 | agg cs vs hl h1 h ih =>
  intro hp
  simp only [AV.plain] at hp
  exact .agg _ _ hl h1 (fun j x u hx hu => ih j x u hx hu (AV.plainL_get hp hx))
 | tup cs vs hl h ih =>
  intro hp
  simp only [AV.plain] at hp
  exact .tup _ _ hl (fun j x u hx hu => ih j x u hx hu (AV.plainL_get hp hx))
 | _ => intro hp; simp [AV.plain] at hp
def Zfy (σ : Nat → Option Blk) (F : Nat → Prop) (b : Nat) : Prop := F b ∨ ∃ id, hasB σ id b
theorem RepF.lent (h : RepF F w x v) : RepF (Zfy σ F) w x v := h.mono (fun _ h => .inl h) (fun _ _ => rfl)
theorem RepV.nmv {id : Nat} {k : List Nat} (h : RepV σ F w (.nm id k) v) : ∃ gs V, σ id = some (.ext gs V) ∧ v = V k := by
 cases h with
 | f _ _ h => cases h
 | nm _ _ gs V h _ => exact ⟨gs, V, h, rfl⟩
theorem RepV.lendM {h : List AObj} (hr : HRep σ F w h) (hv : RepV σ F w x v) : RepV σ (Zfy σ F) w (x.sub (lendM h)) v := by
 refine hv.sub (fun _ _ h => h.lent) ?_ ?_ ?_
 ·intro id sz off len y hy
  exact hy.mono (fun _ h => .inl h) (fun _ _ => rfl)
 ·intro id q sz j y hy
  exact hy.mono (fun _ h => .inl h) (fun _ _ => rfl)
 ·intro id k y hy
  simp only [Eng.lendM]
  split
  ·rename_i es hq
   obtain ⟨g, arr, clock, h1, h2, h3⟩ := hr.obj id _ hq
   obtain ⟨gs, V, h4, h5⟩ := RepV.nmv hy
   rw [h1] at h4
   cases h4
   rw [h5]
   exact .f _ _ (.mp es g arr clock (.inr ⟨id, _, h1, rfl⟩) h2 h3)
  ·exact hy.mono (fun _ h => .inl h) (fun _ _ => rfl)
theorem RepV.borrow {h : List AObj} (hr : HRep σ F w h) (hv : RepV σ F w x v) : RepV (fun _ => none) (Zfy σ F) w (x.sub (Z1d h)) v := by
 refine hv.sub (fun _ _ h => h.lent) ?_ ?_ ?_
 ·intro id sz off len y hy
  simp only [Z1d]
  split
  ·rename_i e rs es hq
   have hob := hr.obj id _ hq
   by_cases hsz : sz = rs
   ·subst hsz
    rw [if_pos rfl]
    rcases RepV.ownv hy with ⟨h1, rfl, rfl, rfl⟩ | ⟨g, b, c, n, h1, hn, hc, hy⟩
    ·simpa using RepV.f _ _ (.nil0 sz 0 none)
    ·obtain ⟨rfl, h2, h3, V, hV⟩ := Z2v hob h1
     rcases Nat.eq_zero_or_pos len with h0 | h0
     ·subst h0
      rw [List.take_zero]
      rcases hy with rfl | ⟨_, _, _, A, rfl⟩
      ·exact .f _ _ (.nil0 _ _ _)
      ·exact .f _ _ (.nil0 _ _ _)
     ·rcases hy with rfl | ⟨h4, _⟩
      ·have hl : ((es.drop off).take len).length = len := by simp; omega
       have hget : ∀ q cs, ((es.drop off).take len)[q]? = some cs → es[off + q]? = some cs := fun q cs hq => by
        rw [List.getElem?_take] at hq
        split at hq
        ·rwa [List.getElem?_drop] at hq
        ·cases hq
       refine .f _ _ (.ro _ _ _ _ _ (fun q j => V (off + q) j) hl (by omega) (.inr ⟨_, .at h1⟩) (fun cs hcs => h3 cs (List.mem_of_mem_drop (List.mem_of_mem_take hcs))) (fun q cs j x hq hj => ?_) (fun q cs j x hq hj => ?_))
       ·obtain ⟨h5, h6, _⟩ := hV _ cs j x (hget q cs hq) hj
        refine ⟨?_, h6⟩
        rw [Zl, ← Nat.add_assoc, ← Nat.add_mul, Nat.add_assoc]
        exact h5
       ·exact (hV _ cs j x (hget q cs hq) hj).2.2.lent
      ·omega
   ·rw [if_neg hsz]; exact .f _ _ (.any _)
  ·exact .f _ _ (.any _)
 ·intro id q sz j y hy
  simp only [Z1d]
  obtain ⟨g, b, c, n, h1, rfl⟩ := RepV.ptrv hy
  split
  ·rename_i e rs es hq
   have hob := hr.obj id _ hq
   by_cases hsz : sz = rs
   ·subst hsz
    rw [if_pos rfl]
    obtain ⟨rfl, h2, h3, V, hV⟩ := Z2v hob h1
    have hget : ∀ k x, ((getRow es q).drop j)[k]? = some x → ∃ cs, es[q]? = some cs ∧ cs[j + k]? = some x := fun k x hk => by
     rw [List.getElem?_drop] at hk
     unfold getRow at hk
     cases he : es[q]? with
     | none => rw [he] at hk; simp at hk
     | some cs => rw [he] at hk; exact ⟨cs, rfl, hk⟩
    refine .f _ _ (.rp _ _ (fun k => V q (j + k)) (.inr ⟨_, .at h1⟩) (fun k x hk => ?_) (fun k x hk => ?_))
    ·obtain ⟨cs, h4, h5⟩ := hget k x hk
     obtain ⟨h6, h7, _⟩ := hV q cs _ x h4 h5
     refine ⟨?_, h7⟩
     rw [Zl, Nat.add_assoc]
     exact h6
    ·obtain ⟨cs, h4, h5⟩ := hget k x hk
     exact (hV q cs _ x h4 h5).2.2.lent
   ·rw [if_neg hsz]; exact .f _ _ (.any _)
  ·rename_i e cs hq
   split
   ·rename_i hc
    obtain ⟨rfl, hfl⟩ := hc
    obtain ⟨V, hV⟩ := Zay (s := ⟨[], h⟩) hr h1 (k := 0) (sz := sz) (by simp only [hq, Zs])
    simp only [hq, Zs] at hV
    refine .f _ _ (.rp _ _ (fun k => V (j + k)) (.inr ⟨_, .at h1⟩) (fun k x hk => ?_) (fun k x hk => ?_))
    ·rw [List.getElem?_drop, List.getElem?_map, Option.map_eq_some_iff] at hk
     obtain ⟨x, hk, rfl⟩ := hk
     obtain ⟨h5, h6, _⟩ := hV _ x hk
     refine ⟨?_, h6⟩
     rw [Zl, Nat.add_assoc]
     exact h5
    ·rw [List.getElem?_drop] at hk
     have hfx := List.all_eq_true.1 hfl _ (List.mem_of_getElem? hk)
     rw [List.getElem?_map, Option.map_eq_some_iff] at hk
     obtain ⟨x, hk, rfl⟩ := hk
     exact ((hV _ x hk).2.2.lendM hr).toF hfx
   ·exact .f _ _ (.any _)
  ·exact .f _ _ (.any _)
 ·intro id k y hy
  simp only [Z1d]
  split
  ·rename_i es hq
   obtain ⟨g, arr, clock, h1, h2, h3⟩ := hr.obj id _ hq
   obtain ⟨gs, V, h4, h5⟩ := RepV.nmv hy
   rw [h1] at h4
   cases h4
   rw [h5]
   exact .f _ _ (.mp es g arr clock (.inr ⟨id, _, h1, rfl⟩) h2 h3)
  ·exact .f _ _ (.any _)
theorem Zge {h : List AObj} (hr : HRep σ F w h) : HRep (fun _ => none) (Zfy σ F) w [] := by
 refine ⟨fun id ob ho => by simp at ho, fun _ _ => rfl, fun id id' g h1 => (by obtain ⟨_, h1, _⟩ := h1; cases h1), fun id g h1 => (by obtain ⟨_, h1, _⟩ := h1; cases h1), fun b hb => ?_, hr.lay.mono (fun _ h => .inl h) (fun _ _ => rfl)⟩
 rcases hb with hb | ⟨id, hs⟩
 ·exact hr.flt b hb
 ·exact (hr.lt id b hs).1
theorem Zfn {fop : Operand} {ar : Array Operand} {ts : Array Nat} (ho : o.op = .call { callee := .value fop, args := ar, argTypes := ts }) {f : Nat} {caps : List AV} (hf : s.ev fop = .fn f caps) (hE : Enters P f) {R : AV}
  (spec : FSpec P f [] ((ar.toList.map s.ev ++ caps).map (AV.sub (Z1d s.heap))) (fun r h => r = R ∧ h = [])) (hp : R.plain = true) (hd : dOK X.n o.dst) (hK : K (St.put s o.dst R)) : opWPG P X o K s := by
 rintro Qc next a w hn ⟨σ, F, hr⟩
 obtain ⟨us, hfv, hul, hur⟩ := RepV.fnv (hf ▸ hr.ev fop)
 let vs : List Value := ar.toList.map a.eval ++ us
 have hl : ((ar.toList.map s.ev ++ caps).map (AV.sub (Z1d s.heap))).length = vs.length := by simp [vs, hul]
 have hrep : ∀ (j : Nat) (x : AV) (u : Value), ((ar.toList.map s.ev ++ caps).map (AV.sub (Z1d s.heap)))[j]? = some x → vs[j]? = some u → RepV (fun _ => none) (Zfy σ F) w x u := fun j x u hx hu => by
  rw [List.getElem?_map, Option.map_eq_some_iff] at hx
  obtain ⟨y, hy, rfl⟩ := hx
  refine RepV.borrow hr.heap ?_
  rcases Nat.lt_or_ge j ar.toList.length with h1 | h1
  ·rw [List.getElem?_append_left (by simpa using h1), List.getElem?_map, List.getElem?_eq_getElem h1] at hy
   simp only [vs] at hu
   rw [List.getElem?_append_left (by simpa using h1), List.getElem?_map, List.getElem?_eq_getElem h1] at hu
   injection hu with hu
   injection hy with hy
   rw [← hu, ← hy]
   exact hr.ev _
  ·rw [List.getElem?_append_right (by simpa using h1), List.length_map] at hy
   simp only [vs] at hu
   rw [List.getElem?_append_right (by simpa using h1), List.length_map] at hu
   exact hur _ _ _ hy hu
 have hcall := spec _ _ w vs (Zge hr.heap) hl hrep
 have hrun : (execOp a.eval o).run P w = .ok (.enter f vs.toArray) w := by
  have hva : ar.map a.eval ++ us.toArray = vs.toArray := by
   apply Array.ext'
   simp [vs]
  simp [execOp, ho, resolve, hfv, Deferred.ofValue, invoke, hva, hE vs.toArray w]
 unfold Oper.wp
 rw [hrun]
 show Calls P f vs.toArray w _
 refine hcall.mono ?_
 rintro e w' ⟨ret, h', σ', F', rv, ⟨rfl, rfl⟩, rfl, h1, h2, h3, h4, h5, h6, h7⟩
 have hk : Ext w w' := ⟨h3.os, h3.tape, h3.output, h3.size, fun b hb _ => h3.block b hb (fun ⟨id, k, h, _⟩ => by cases h)⟩
 exact hn _ _ _ hK ⟨σ, F, (hr.ext hk).put hd (h1.plain hp)⟩ ⟨hk.size, fun b hb => hk.block b hb (fun h => h)⟩
end
end Go.Proofs.YtahlodpolggeiaaGreatDoor.Eng
set_option linter.unusedVariables false
set_option linter.unusedSimpArgs false
namespace Go.Proofs.YtahlodpolggeiaaGreatDoor.Eng
open Go Go.RowKit
mutual
def AV.ids : AV → List Nat
 | .own id _ _ _ => [id]
 | .ptr id _ _ _ => [id]
 | .nm id _ => [id]
 | .agg cs => AV.idsL cs
 | .any | .v _ | .ro .. | .rp _ | .tup _ | .fn .. | .mp _ | .mq _ => []
def AV.idsL : List AV → List Nat
 | [] => []
 | x :: r => x.ids ++ AV.idsL r
end
def freezeAll (s : St) : List Nat → St
 | [] => s
 | id :: r => freezeAll (s.freeze id) r
section
variable {P : Program} {T : Tab} {X : Ctx} {σ σ' : Nat → Option Blk} {F F' : Nat → Prop} {s s' : St} {a : Act} {w w' : World} {o : Oper} {c : Prop} {x : AV} {v : Value} {K K' : St → Prop}
theorem Rep.freezeAll : ∀ (ids : List Nat) (s : St), Rep X s a w → Rep X (Eng.freezeAll s ids) a w
 | [], s, h => h
 | id :: r, s, h => Rep.freezeAll r _ (Rep.freeze h id)
theorem opWP.from (h : ∀ a w, Rep X s a w → Rep X s' a w) (k : opWP P X o K s') : opWP P X o K s := fun Qc next a w hn hr => k Qc next a w hn (h a w hr)
theorem opWP.mono (k : opWP P X o K s) (h : ∀ s, K s → K' s) : opWP P X o K' s := fun Qc next a w hn hr => k Qc next a w (fun s a w h1 h2 => hn s a w (h s h1) h2) hr
theorem Zfm {cnd p q : Operand} (ho : o.op = .pick cnd p q) {t : Bool} (hc : s.ev cnd = .v (.bool t)) (hd : dOK X.n o.dst) (h1 : t = true → K (s.put o.dst (s.ev p))) (h2 : t = false → K (s.put o.dst (s.ev q))) : opWP P X o K s := by
 rintro Qc next a w hn ⟨σ, F, hr⟩
 have hv : a.eval cnd = .bool t := RepV.val (hc ▸ hr.ev cnd)
 unfold Oper.wp
 cases t with
 | true =>
  have : (execOp a.eval o).run P w = .ok (.value (a.eval p)) w := by simp [execOp, ho, hv, asBool]
  rw [this]
  exact hn _ _ _ (h1 rfl) ⟨σ, F, hr.put hd (hr.ev p)⟩
 | false =>
  have : (execOp a.eval o).run P w = .ok (.value (a.eval q)) w := by simp [execOp, ho, hv, asBool]
  rw [this]
  exact hn _ _ _ (h2 rfl) ⟨σ, F, hr.put hd (hr.ev q)⟩
def Z9d (x : AV) : Option (Prop × Prop) :=
 match x with
 | .ro _ es => some (es ≠ [], es = [])
 | .own _ _ _ len => some (len ≠ 0, len = 0)
 | _ => none
theorem Z3k {t e : Nat} (hk : P.underlying t = some (.slice e)) (A : Option Addr) (n c : Nat) : (Op.equal t (.slice A n c) (.slice none 0 0)).run P w = .ok A.isNone w := by
 have h : ∀ d, (Op.equalIn (d + 1) t (.slice A n c) (.slice none 0 0)).run P w = .ok A.isNone w := fun d => by
  cases A <;> simp [Op.equalIn, run_underlying hk]
 exact h 9999
theorem Z9b {t t' e : Nat} {y z : Operand} {op : BinOp} (hop : op = .eql ∨ op = .neq) (ho : o.op = .binOp op t y z t') (hT : Zg P T) {m p : Nat} {zv : Value} (ht : T t = some ⟨.slice e, m, p, zv⟩) (hz : s.ev z = .v (.slice none 0 0)) {c1 c2 : Prop} (hy : Z9d (s.ev y) = some (c1, c2)) (hd : dOK X.n o.dst)
  (h1 : c1 → K (s.put o.dst (.v (.bool (decide (op = .neq)))))) (h2 : c2 → ∀ b, K (s.put o.dst (.v (.bool b)))) : opWP P X o K s := by
 rintro Qc next a w hn ⟨σ, F, hr⟩
 have hu : P.underlying t = some (.slice e) := (hT _ _ ht).kind
 have hvz : a.eval z = .slice none 0 0 := RepV.val (hz ▸ hr.ev z)
 have key : ∃ A n c, a.eval y = .slice A n c ∧ (c1 → A.isNone = false) ∧ (¬ c1 → c2) := by
  unfold Z9d at hy
  split at hy
  ·rename_i sz es he
   cases hy
   obtain ⟨A, c, hv, _, hx⟩ := RepV.rov (he ▸ hr.ev y)
   exact ⟨A, _, c, hv, fun hne => by obtain ⟨ad, _, rfl, _⟩ := hx hne; rfl, fun h => Classical.not_not.1 h⟩
  ·rename_i id sz off len he
   cases hy
   rcases RepV.ownv (he ▸ hr.ev y) with ⟨_, _, rfl, hv⟩ | ⟨g, b, cp, n, _, _, _, hv | ⟨rfl, _, _, A, hv⟩⟩
   ·exact ⟨_, _, _, hv, fun h => absurd rfl h, fun _ => rfl⟩
   ·exact ⟨_, _, _, hv, fun _ => rfl, fun h => Classical.not_not.1 h⟩
   ·exact ⟨_, _, _, hv, fun h => absurd rfl h, fun _ => rfl⟩
  ·cases hy
 obtain ⟨A, n, cp, hvy, h3, h4⟩ := key
 have hrun : (execOp a.eval o).run P w = .ok (.value (.bool (A.isNone != decide (op = .neq)))) w := by
  rcases hop with rfl | rfl
  ·simp only [execOp, ho, hvy, hvz, eqGuard, binOp, Sem.run_bind, Z3k hu, Result.andThen_ok, Sem.run_pure]
   simp
  ·simp only [execOp, ho, hvy, hvz, eqGuard, binOp, Sem.run_bind, Z3k hu, Result.andThen_ok, Sem.run_pure]
   simp
 unfold Oper.wp
 rw [hrun]
 by_cases hc : c1
 ·rw [h3 hc]
  have : (false != decide (op = .neq)) = decide (op = .neq) := by simp
  rw [this]
  exact hn _ _ _ (h1 hc) ⟨σ, F, hr.put hd (.f _ _ (.v _))⟩
 ·exact hn _ _ _ (h2 (h4 hc) _) ⟨σ, F, hr.put hd (.f _ _ (.v _))⟩
end
@[irreducible] def OWED (P : Program) (X : Ctx) (o : Oper) (K : St → Prop) (s : St) : Prop := opWP P X o K s
theorem OWED.intro {P : Program} {X : Ctx} {o : Oper} {K : St → Prop} {s : St} (h : opWP P X o K s) : OWED P X o K s := by unfold OWED; exact h
def Zj8 (r : Option (Prop × AV)) (k : Prop → AV → Prop) (e : Unit → Prop) : Prop := match r with
 | some (c, x) => k c x
 | none => e ()
def Zja (r : Option (Prop × St × AV)) (k : Prop → St → AV → Prop) (e : Unit → Prop) : Prop := match r with
 | some (c, s, x) => k c s x
 | none => e ()
def Z7b (x : AV) (k : Bool → Prop) : Prop := match x with
 | .v (.bool b) => k b
 | _ => False
theorem Z4m {x : AV} {k : Bool → Prop} (h : Z7b x k) : ∃ b, x = .v (.bool b) ∧ k b := by
 unfold Z7b at h
 split at h
 ·exact ⟨_, rfl, h⟩
 ·exact h.elim
def Zj9 (r : Option (Prop × Prop × Bool)) (k : Prop → Prop → Bool → Prop) (e : Unit → Prop) : Prop := match r with
 | some (c1, c2, b) => k c1 c2 b
 | none => e ()
def Zdd (T : Tab) (m : Nat) (t t' : Nat) (yz : AV × AV) (s : St) : Option (Prop × St × AV) :=
 match T t with
 | some ⟨.slice e, _, _, _⟩ => match T e with
  | some ti => match Z1y s ti.size yz.2 with
   | some (c, news) => match yz.1 with
    | .v (.slice none 0 0) => some (c ∧ (match T t' with | some ⟨.slice _, _, _, _⟩ => True | some ⟨.str, _, _, _⟩ => True | _ => False) ∧ 0 < ti.size ∧ 0 < ti.bytes ∧ news.length * ti.bytes ≤ 140737488355328,
      St.appended ⟨s.env, s.heap ++ [.row e ti.size []]⟩ s.heap.length (.row e ti.size news), .own s.heap.length ti.size 0 news.length)
    | .own id sz off len => match s.heap[id]? with
     | some (.row e' rs es) => some (c ∧ (match T t' with | some ⟨.slice _, _, _, _⟩ => True | some ⟨.str, _, _, _⟩ => True | _ => False) ∧ 0 < ti.size ∧ 0 < ti.bytes ∧ e' = e ∧ rs = ti.size ∧ sz = ti.size ∧ off + len = es.length ∧ m ≤ id ∧ (len + news.length) * ti.bytes ≤ 140737488355328,
       s.appended id (.row e ti.size (es.drop off ++ news)), .own id ti.size 0 (len + news.length))
     | _ => none
    | _ => none
   | none => none
  | none => none
 | _ => none
abbrev Book := Nat → List AV → Option (Prop × AV)
def BookOK (P : Program) (B : Book) : Prop := ∀ f args c R, B f args = some (c, R) → c → Enters P f ∧ FSpec P f [] args (fun r h => r = R ∧ h = [])
def Zjj (s : St) (f : Nat) (caps : List AV) (fop : Operand) (args : List Operand) : Option (Prop × AV) → Option (Prop × St × AV)
 | some (c, R) => if R.plain then some (c, s, R) else match caps with
  | [] => let s1 := freezeAll s (AV.idsL (args.map s.ev))
   some (s1.ev fop = .fn f [] ∧ (args.map s1.ev).map (AV.sub (Z1b [])) = (args.map s.ev ++ []).map (AV.sub (Z1d s.heap)) ∧ c, s1, R.sub (Z20 [] s1.heap.length))
  | _ => none
 | none => none
def exMem (T : Tab) (B : Book) (m : Nat) (s : St) (o : Oper) : Option (Prop × St × AV) :=
 match o.op with
 | .alloc e => match T e with
  | some i => some (True, ⟨s.env, s.heap ++ [.box e (i.zero.cells.toList.map .v)]⟩, .ptr s.heap.length 0 i.size 0)
  | none => none
 | .box e y => some ((s.ev y).full = true, ⟨s.env, s.heap ++ [.box e (cellsOf (s.ev y))]⟩, .ptr s.heap.length 0 0 0)
 | .build t parts => match T t with
  | some ⟨.struct fs, _, _, z⟩ => match Z2f T fs with
   | some pl => match Z5m pl (z.cells.toList.map .v) (parts.toList.map fun q => (q.1, s.ev q.2)) with
    | some (c, cs) => some (c, s, .agg cs)
    | none => none
   | none => none
  | _ => none
 | .buildSlice t len parts => match T t with
  | some ⟨.slice e, _, _, _⟩ => match T e with
   | some i => let s1 := freezeAll s (AV.idsL (parts.toList.map fun q => s.ev q.2))
    some (parts.toList.map (·.1) = List.range len ∧ rowOK i.size (parts.toList.map fun q => s1.ev q.2) ∧ 0 < i.size ∧ len * i.size ≤ 16777216,
    ⟨s1.env, s1.heap ++ [.row e i.size (parts.toList.map fun q => cellsOf (s1.ev q.2))]⟩, .own s1.heap.length i.size 0 len)
   | none => none
  | _ => none
 | .makeSlice t y z => match T t, s.ev y, s.ev z with
  | some ⟨.slice e, _, _, _⟩, .v (.int _ q), .v (.int _ q') => match T e with
   | some i => some (q = q' ∧ 0 ≤ q ∧ q * i.bytes ≤ 140737488355328 ∧ 0 < i.bytes ∧ 0 < i.size, ⟨s.env, s.heap ++ [.row e i.size (List.replicate q.toNat (i.zero.cells.toList.map .v))]⟩, .own s.heap.length i.size 0 q.toNat)
   | none => none
  | _, _, _ => none
 | .store t y z => match T t, s.ev y with
  | some i, .ptr id k sz j => match s.heap[id]? with
   | some (.box e cs) => some (k = 0 ∧ (s.ev z).full = true ∧ (cellsOf (s.ev z)).length = i.size ∧ j + i.size ≤ cs.length, ⟨s.env, s.heap.set id (.box e (putA cs j (cellsOf (s.ev z))))⟩, .any)
   | some (.row e rs es) => let s1 := freezeAll s (s.ev z).ids
    some (rs = sz ∧ k < es.length ∧ s1.heap[id]? = some (.row e rs es) ∧ s1.ev y = .ptr id k sz j ∧ (s1.ev z).full = true ∧ (cellsOf (s1.ev z)).all AV.flat = true ∧ (cellsOf (s1.ev z)).length = i.size ∧ j + i.size ≤ sz,
    ⟨s1.env, s1.heap.set id (.row e sz (es.set k (putA (getRow es k) j (cellsOf (s1.ev z)))))⟩, .any)
   | _ => none
  | _, _ => none
 | .call { callee := .builtin .append, args := args, argTypes := ts } => match args.toList, ts.toList with
  | [y, z], [t, t'] => Zdd T m t t' (s.ev y, s.ev z) s
  | _, _ => none
 | .call { callee := .value fop, args := args, .. } => match s.ev fop with
  | .fn f caps => Zjj s f caps fop args.toList (B f ((args.toList.map s.ev ++ caps).map (AV.sub (Z1d s.heap))))
  | _ => none
 | _ => none
def eqOp (op : BinOp) : Option Bool := if op = .eql then some false else if op = .neq then some true else none
def exNil (T : Tab) (s : St) (op : BinOp) (t : Nat) (y z : Operand) : Option (Prop × Prop × Bool) :=
 match T t, s.ev z, Z9d (s.ev y), eqOp op with
 | some ⟨.slice _, _, _, _⟩, .v (.slice none 0 0), some (c1, c2), some b => some (c1, c2, b)
 | _, _, _, _ => none
def kVal (n : Nat) (o : Oper) (K : St → Prop) (s : St) (c : Prop) (x : AV) : Prop := dOK n o.dst ∧ c ∧ K (s.put o.dst x)
def kMem (n : Nat) (o : Oper) (K : St → Prop) (c : Prop) (s1 : St) (x : AV) : Prop := dOK n o.dst ∧ c ∧ K (s1.put o.dst x)
def kPick (n : Nat) (o : Oper) (K : St → Prop) (s : St) (p q : Operand) (t : Bool) : Prop := dOK n o.dst ∧ (t = true → K (s.put o.dst (s.ev p))) ∧ (t = false → K (s.put o.dst (s.ev q)))
def kNil (n : Nat) (o : Oper) (K : St → Prop) (s : St) (c1 c2 : Prop) (b : Bool) : Prop := dOK n o.dst ∧ (c1 → K (s.put o.dst (.v (.bool b)))) ∧ (c2 → ∀ b, K (s.put o.dst (.v (.bool b))))
def eOwed (P : Program) (X : Ctx) (o : Oper) (K : St → Prop) (s : St) (_ : Unit) : Prop := OWED P X o K s
def eVal (P : Program) (T : Tab) (B : Book) (X : Ctx) (n m : Nat) (o : Oper) (K : St → Prop) (s : St) (_ : Unit) : Prop := match o.op with
 | .pick cnd p q => Z7b (s.ev cnd) (kPick n o K s p q)
 | .binOp op t y z _ => Zj9 (exNil T s op t y z) (kNil n o K s) (eOwed P X o K s)
 | _ => Zja (exMem T B m s o) (kMem n o K) (eOwed P X o K s)
def exOpB (P : Program) (T : Tab) (B : Book) (X : Ctx) (n m : Nat) (o : Oper) (K : St → Prop) (s : St) : Prop := Zj8 (Zh T s o.op) (kVal n o K s) (eVal P T B X n m o K s)
def exOp (P : Program) (T : Tab) (B : Book) (X : Ctx) (n m : Nat) (o : Oper) (K : St → Prop) (s : St) : Prop := exOpB P T B X n m o K s
section
variable {P : Program} {T : Tab} {X : Ctx} {σ σ' : Nat → Option Blk} {F F' : Nat → Prop} {s s' : St} {a : Act} {w w' : World} {o : Oper} {c : Prop} {x : AV} {v : Value} {K K' : St → Prop}
theorem Z9v (s : St) : s.back [] [] = s := by
 cases s with
 | mk env heap =>
  simp only [St.back, Z4c, List.drop_nil, List.map_nil, List.append_nil, idx]
  congr 1
  apply List.ext_getElem?
  intro i
  simp
theorem leL_refl : ∀ (l : List AV), AV.leL l l
 | [] => trivial
 | x :: r => ⟨.refl x, leL_refl r⟩
theorem op_pure {fop : Operand} {ar : Array Operand} {ts : Array Nat} (ho : o.op = .call { callee := .value fop, args := ar, argTypes := ts }) {f : Nat} (hf : s.ev fop = .fn f []) (hE : Enters P f) {R : AV}
  (spec : FSpec P f [] ((ar.toList.map s.ev).map (AV.sub (Z1b []))) (fun r h => r = R ∧ h = [])) (hd : dOK X.n o.dst) (hK : K (St.put s o.dst (R.sub (Z20 [] s.heap.length)))) : opWP P X o K s := by
 refine Zfp ho hf hE [] List.nodup_nil (by simp) (args' := (ar.toList.map s.ev).map (AV.sub (Z1b []))) (h0 := []) ?_ rfl spec hd (fun ret h' hp hl => ?_)
 ·rw [List.append_nil]
  exact leL_refl _
 ·obtain ⟨rfl, rfl⟩ := hp
  refine ⟨fun k hk => absurd hk (Nat.not_lt_zero _), ?_⟩
  rw [Z9v]
  exact hK
theorem Ziv {B : Book} (hT : Zg P T) (hB : BookOK P B) {s1 : St} (h : exMem T B X.m s o = some (c, s1, x)) (hc : c) (hd : dOK X.n o.dst) (hK : K (s1.put o.dst x)) : opWP P X o K s := by
 have one : ∀ {p q : Prop} {y z : St} {u u' : AV}, some (p, y, u) = some (q, z, u') → p = q ∧ y = z ∧ u = u' := fun {p q y z u u'} h => by cases h; exact ⟨rfl, rfl, rfl⟩
 unfold exMem at h
 split at h
 ·rename_i e ho
  split at h
  ·rename_i i hi
   obtain ⟨_, rfl, rfl⟩ := one h
   exact (Zav ho hT hi hd hK).wp
  ·cases h
 ·rename_i e y ho
  obtain ⟨rfl, rfl, rfl⟩ := one h
  exact (Zfq ho hc hd hK).wp
 ·rename_i t parts ho
  split at h
  ·rename_i fs _ _ z ht
   split at h
   ·rename_i pl hpl
    split at h
    ·rename_i c' cs hb
     obtain ⟨rfl, rfl, rfl⟩ := one h
     exact (Zau ho hT ht hpl hb hc hd hK).wp
    ·cases h
   ·cases h
  ·cases h
 ·rename_i t len parts ho
  split at h
  ·rename_i e _ _ _ ht
   split at h
   ·rename_i i hi
    obtain ⟨rfl, rfl, rfl⟩ := one h
    exact opWP.from (fun a w hr => Rep.freezeAll _ _ hr) (Z4i ho hT ht hi hc.1 hc.2.1 hc.2.2.1 hc.2.2.2 hd hK).wp
   ·cases h
  ·cases h
 ·rename_i t y z ho
  split at h
  ·rename_i ht hy hz
   split at h
   ·rename_i i hi
    obtain ⟨rfl, rfl, rfl⟩ := one h
    obtain ⟨rfl, h1, h2, h3, h4⟩ := hc
    exact (Z57 ho hT ht hi hy hz h1 h2 h3 h4 hd hK).wp
   ·cases h
  ·cases h
 ·rename_i t y z ho
  split at h
  ·rename_i i id k sz j hi hy
   split at h
   ·rename_i e cs hq
    obtain ⟨rfl, rfl, rfl⟩ := one h
    obtain ⟨rfl, h1, h2, h3⟩ := hc
    exact Z6h ho hT hi hy hq h1 h2 h3 hd hK
   ·rename_i e rs es hq
    obtain ⟨rfl, rfl, rfl⟩ := one h
    obtain ⟨rfl, h1, h2, h3, h4, h5, h6, h7⟩ := hc
    exact opWP.from (fun a w hr => Rep.freezeAll _ _ hr) (Z6g ho hT hi h3 h2 h1 h4 h5 h6 h7 hd hK)
   ·cases h
  ·cases h
 ·rename_i args ts ho
  split at h
  ·rename_i y z t t' ha ht
   have ha' : args = #[y, z] := by rw [← Array.toArray_toList (xs := args), ha]
   have ht' : ts = #[t, t'] := by rw [← Array.toArray_toList (xs := ts), ht]
   subst ha' ht'
   unfold Zdd at h
   split at h
   ·rename_i e _ _ _ hte
    split at h
    ·rename_i ti hti
     have key : ∀ {q : Prop}, (q ↔ (match T t' with | some ⟨.slice _, _, _, _⟩ => True | some ⟨.str, _, _, _⟩ => True | _ => False)) → q → ((∃ e' m' p' z', T t' = some ⟨.slice e', m', p', z'⟩) ∨ ∃ m' p' z', T t' = some ⟨.str, m', p', z'⟩) := fun {q} hq h => by
      have h := hq.1 h
      split at h
      ·rename_i h1; exact .inl ⟨_, _, _, _, h1⟩
      ·rename_i h1; exact .inr ⟨_, _, _, h1⟩
      ·exact h.elim
     split at h
     ·rename_i c' news he
      split at h
      ·rename_i hy
       obtain ⟨rfl, rfl, rfl⟩ := one h
       obtain ⟨h6, h1, h3, h4, h7⟩ := hc
       exact Z58 ho hT hte hti (key Iff.rfl h1) hy he h6 h3 h4 h7 hd hK
      ·rename_i id sz off len hy
       split at h
       ·rename_i e' rs es hq
        obtain ⟨rfl, rfl, rfl⟩ := one h
        obtain ⟨h6, h1, h3, h4, rfl, rfl, rfl, h8, h9, h10⟩ := hc
        exact Z7k ho hT hte hti (key Iff.rfl h1) hy hq h8 he h6 h3 h4 h10 h9 hd hK
       ·cases h
      ·cases h
     ·cases h
    ·cases h
   ·cases h
  ·cases h
 ·rename_i fop args ts ho
  split at h
  ·rename_i f caps hf
   generalize hb : B f _ = r at h
   cases r with
   | none => cases h
   | some p =>
    obtain ⟨c', R⟩ := p
    unfold Zjj at h
    simp only at h
    split at h
    ·rename_i hp
     obtain ⟨rfl, rfl, rfl⟩ := one h
     obtain ⟨hE, spec⟩ := hB f _ _ _ hb hc
     exact (Zfn ho hf hE spec hp hd hK).wp
    ·split at h
     ·obtain ⟨rfl, rfl, rfl⟩ := one h
      obtain ⟨h1, h2, h4⟩ := hc
      obtain ⟨hE, spec⟩ := hB f _ _ _ hb h4
      rw [← h2] at spec
      exact opWP.from (fun a w hr => Rep.freezeAll _ _ hr) (op_pure ho h1 hE spec hd hK)
     ·cases h
  ·cases h
 ·cases h
theorem Zgq {B : Book} (hT : Zg P T) (hB : BookOK P B) (h : exOp P T B X X.n X.m o K s) : opWP P X o K s := by
 have owed : OWED P X o K s → opWP P X o K s := fun h => by unfold OWED at h; exact h
 unfold exOp exOpB Zj8 kVal eVal kPick kNil kMem eOwed at h
 split at h
 ·rename_i c x he
  exact opWP.val (fun σ F a w hr => (Z5f hT hr he h.2.1).imp fun v hv => ⟨hv.1 w (Grow.refl w), hv.2⟩) h.1 h.2.2
 ·split at h
  ·rename_i cnd p q ho
   obtain ⟨t, hc, h1, h2, h3⟩ := Z4m h
   exact Zfm ho hc h1 h2 h3
  ·rename_i op t y z t' ho
   unfold Zj9 at h
   split at h
   ·rename_i c1 c2 b he
    unfold exNil at he
    split at he
    ·rename_i ht hz hn hb
     cases he
     unfold eqOp at hb
     split at hb
     ·rename_i e1
      subst e1
      cases hb
      exact Z9b (.inl rfl) ho hT ht hz hn h.1 (by simpa using h.2.1) h.2.2
     ·split at hb
      ·rename_i e1
       subst e1
       cases hb
       exact Z9b (.inr rfl) ho hT ht hz hn h.1 (by simpa using h.2.1) h.2.2
      ·cases hb
    ·cases he
   ·exact owed h
  ·unfold Zja at h
   split at h
   ·rename_i c s1 x he
    exact Ziv hT hB he h.2.1 h.1 h.2.2
   ·exact owed h
end
end Go.Proofs.YtahlodpolggeiaaGreatDoor.Eng
set_option linter.unusedVariables false
set_option linter.unusedSimpArgs false
namespace Go.Proofs.YtahlodpolggeiaaGreatDoor.Eng
open Go Go.RowKit
def nthDst : List Oper → Nat → Option Nat
 | [], _ => none
 | o :: _, 0 => o.dst
 | _ :: r, j + 1 => nthDst r j
theorem nthDst_eq : ∀ (l : List Oper) (j : Nat), nthDst l j = (l[j]?).bind (·.dst)
 | [], j => by simp [nthDst]
 | o :: r, 0 => by simp [nthDst]
 | o :: r, j + 1 => by simp [nthDst, nthDst_eq r j]
def kGuard (n : Nat) (o : Oper) (d : Nat) (want : Bool) (K1 K2 : St → Prop) (s : St) (b : Bool) : Prop :=
 d < n ∧ dOK n o.dst ∧ (b = want → K1 ⟨(d, .v (.bool want)) :: s.env, s.heap⟩) ∧ (b = !want → K2 (St.put ⟨(d, .v (.bool (!want))) :: s.env, s.heap⟩ o.dst .any))
def kCond (K1 K2 : St → Prop) (s : St) (t : Bool) : Prop := (t = true → K1 s) ∧ (t = false → K2 s)
def Zej (P : Program) (T : Tab) (B : Book) (X : Ctx) (n m : Nat) (ops : List Oper) : List Oper → (St → Prop) → St → Prop
 | [], K, s => K s
 | o :: r, K, s => match o.guard with
  | none => exOp P T B X n m o (Zej P T B X n m ops r K) s
  | some (j, want) => match nthDst ops j with
   | some d => Z7b (envGet s.env d) (kGuard n o d want (exOp P T B X n m o (Zej P T B X n m ops r K)) (Zej P T B X n m ops r K) s)
   | none => False
@[irreducible] def LOOP (P : Program) (X : Ctx) (c : Code) (Q : Exit → St → Prop) (s : St) : Prop := WP P X c Q s
theorem LOOP.intro {P : Program} {X : Ctx} {c : Code} {Q : Exit → St → Prop} {s : St} (h : WP P X c Q s) : LOOP P X c Q s := by unfold LOOP; exact h
def ex (P : Program) (T : Tab) (B : Book) (X : Ctx) (n m : Nat) : Code → (Exit → St → Prop) → St → Prop
 | .skip, Q, s => Q .normal s
 | .region _ ops false, Q, s => Zej P T B X n m ops.toList ops.toList (Q .normal) s
 | .seq a b, Q, s => ex P T B X n m a (Zc6 (ex P T B X n m b Q) Q) s
 | .cond c a b, Q, s => Z7b (s.ev c) (kCond (ex P T B X n m a Q) (ex P T B X n m b Q) s)
 | .block id b, Q, s => ex P T B X n m b (Zbu id Q) s
 | .exit id, Q, s => Q (.exit id) s
 | .ret, Q, s => Q .ret s
 | c, Q, s => LOOP P X c Q s
section
variable {P : Program} {T : Tab} {B : Book} {X : Ctx} {s : St}
theorem Rep.know {X : Ctx} {s : St} {a : Act} {w : World} {d : Nat} {b : Bool} (hd : envGet s.env d = .v (.bool b)) (hr : Rep X s a w) : Rep X ⟨(d, .v (.bool b)) :: s.env, s.heap⟩ a w := by
 obtain ⟨σ, F, hr⟩ := hr
 refine ⟨σ, F, hr.defers, hr.size, fun i => ?_, hr.heap, hr.keep, hr.own, hr.fnew, hr.stab, hr.hm⟩
 simp only [envGet]
 split
 ·rename_i e; subst e; rw [← hd]; exact hr.env i
 ·exact hr.env i
theorem Z77 (hT : Zg P T) (hB : BookOK P B) (ops : List Oper) : ∀ (l : List Oper) (K : St → Prop) (s : St), Zej P T B X X.n X.m ops l K s → WPO P X ops.toArray l K s
 | [], K, s, h => WPO.nil h
 | o :: r, K, s, h => by
  unfold Zej at h
  split at h
  ·rename_i hg
   exact WPO.cons hg ((Zgq hT hB h).mono fun s hs => Z77 hT hB ops r K s hs)
  ·rename_i j want hg
   split at h
   ·rename_i d hj
    ·obtain ⟨b, hd, h⟩ := Z4m h
     have hj' : (ops.toArray[j]?).bind (·.dst) = some d := by rw [List.getElem?_toArray, ← nthDst_eq]; exact hj
     refine WPO.guard hg hj' hd h.2.1 h.1 (fun e => ?_) (fun e => ?_)
     ·refine opWP.from (fun a w hr => Rep.know (b := want) (by rw [hd, e]) hr) ((Zgq hT hB (h.2.2.1 e)).mono fun s hs => Z77 hT hB ops r K s hs)
     ·intro Qc a w hK hr
      have h2 := Z77 hT hB ops r K _ (h.2.2.2 e)
      refine h2 Qc a w hK ?_
      obtain ⟨σ, F, hr⟩ := hr
      generalize o.dst = q at hr ⊢
      refine ⟨σ, F, hr.defers, hr.size, fun i => ?_, (by cases q <;> exact hr.heap), hr.keep, hr.own, hr.fnew, hr.stab, (by cases q <;> exact hr.hm)⟩
      have h3 := hr.env i
      cases q with
      | none =>
       simp only [St.put, envGet] at h3 ⊢
       split
       ·rename_i e2; subst e2; rw [hd, e] at h3; exact h3
       ·exact h3
      | some q =>
       simp only [St.put, envGet] at h3 ⊢
       split
       ·exact .f _ _ (.any _)
       ·rename_i hq
        rw [if_neg hq] at h3
        split
        ·rename_i e2; subst e2; rw [hd, e] at h3; exact h3
        ·exact h3
   ·exact h.elim
theorem ex_ok (hT : Zg P T) (hB : BookOK P B) (hro : X.ro = none) : ∀ (c : Code) (Q : Exit → St → Prop) (s : St), ex P T B X X.n X.m c Q s → WP P X c Q s := by
 have lp : ∀ (c : Code) (Q : Exit → St → Prop) (s : St), LOOP P X c Q s → WP P X c Q s := fun c Q s h => by unfold LOOP at h; exact h
 intro c
 induction c with
 | skip => exact fun Q s h => WP.skip h
 | region id ops d =>
  intro Q s h
  cases d with
  | false =>
   simp only [ex] at h
   have := WP.region (id := id) (l := ops.toList) (Q := Q) (Z77 hT hB ops.toList ops.toList (Q .normal) s h) (.inl hro)
   simpa using this
  | true => exact lp _ _ _ h
 | seq a b iha ihb =>
  intro Q s h
  refine WP.seq ((iha _ _ h).mono fun e s hs => ?_)
  cases e with
  | normal => exact ihb _ _ hs
  | _ => exact hs
 | cond c a b iha ihb =>
  intro Q s h
  simp only [ex] at h
  obtain ⟨t, hc, h⟩ := Z4m h
  exact WP.cond hc (fun e => iha _ _ (h.1 e)) (fun e => ihb _ _ (h.2 e))
 | block id b ih => exact fun Q s h => WP.block (ih _ _ h)
 | exit id => exact fun Q s h => WP.exit h
 | ret => exact fun Q s h => WP.ret h
 | loop b _ => exact fun Q s h => lp _ _ _ h
 | rangeFunc f p a b _ _ => exact fun Q s h => lp _ _ _ h
 | scope b _ => exact fun Q s h => lp _ _ _ h
 | label l => exact fun Q s h => lp _ _ _ h
 | goto l => exact fun Q s h => lp _ _ _ h
 | refuse w => exact fun Q s h => lp _ _ _ h
theorem ex_at (hT : Zg P T) (hB : BookOK P B) {n m : Nat} (hn : X.n = n) (hm : X.m = m) (hro : X.ro = none) {c : Code} {Q : Exit → St → Prop} (h : ex P T B X n m c Q s) : WP P X c Q s := by
 subst hn hm; exact ex_ok hT hB hro c Q s h
end
def Ret (T : Tab) (fn : Func) (m : Nat) (post : AV → List AObj → Prop) (s : St) : Prop :=
 match Z3l T s fn.results.toList with
 | some (c, xs) => c ∧ ∃ extra : List Nat, (List.range m ++ extra).Nodup ∧ (∀ i ∈ extra, i < s.heap.length) ∧ ∃ ret, AV.le ((retAV xs).sub (Z1b (List.range m ++ extra))) ret ∧ post ret (Z13 (List.range m ++ extra) s.heap)
 | none => False
def Qret (T : Tab) (fn : Func) (m : Nat) (post : AV → List AObj → Prop) : Exit → St → Prop
 | .normal, s => Ret T fn m post s
 | .ret, s => Ret T fn m post s
 | _, _ => False
def tabGet : List (Nat × TI) → Nat → Option TI
 | [], _ => none
 | (k, i) :: r, t => if t = k then some i else tabGet r t
theorem tabGet_mem : ∀ {l : List (Nat × TI)} {t : Nat} {i : TI}, tabGet l t = some i → (t, i) ∈ l
 | (k, j) :: r, t, i, h => by
  unfold tabGet at h
  split at h
  ·rename_i e; injection h with h; subst e h; exact List.mem_cons_self
  ·exact List.mem_cons_of_mem _ (tabGet_mem h)
theorem Zhu {P : Program} {l : List (Nat × TI)} (h : ∀ p ∈ l, TIOk P p.1 p.2) : Zg P (tabGet l) := fun t i ht => h _ (tabGet_mem ht)
end Go.Proofs.YtahlodpolggeiaaGreatDoor.Eng
set_option linter.unusedVariables false
set_option linter.unusedSimpArgs false
namespace Go.Proofs.YtahlodpolggeiaaGreatDoor.Eng
open Go Go.RowKit
section
variable {P : Program} {ops : Array Oper} {Q : Exit → Act → World → Prop} {md : Region.Mode} {S : World → Prop}
def anyT (P : Program) (md : Region.Mode) (ops : Array Oper) (Q : Exit → Act → World → Prop) (n : Nat) (L : Array Bool → Act → World → Prop) : Nat → Array Bool → Act → World → (World → Prop) → Prop
 | 0, listed, a, w, _ => L listed a w
 | f + 1, listed, a, w, S =>
  Region.ready md ops listed ≠ [] ∧ ∀ i ∈ Region.ready md ops listed, i < n ∧ wpOp P ops Q i (fun a' w' => S w' ∧ anyT P md ops Q n L f (listed.setIfInBounds i true) a' w' S) a w
theorem Z86 {n : Nat} {L : Array Bool → Act → World → Prop} {S S' : World → Prop} (hS : ∀ w, S w → S' w) : ∀ (f : Nat) (listed : Array Bool) (a : Act) (w : World), anyT P md ops Q n L f listed a w S → anyT P md ops Q n L f listed a w S'
 | 0, _, _, _, h => h
 | f + 1, listed, a, w, h => ⟨h.1, fun i hi => ⟨(h.2 i hi).1, wpOp_mono (fun a' w' h' => ⟨hS _ h'.1, Z86 hS f _ a' w' h'.2⟩) (h.2 i hi).2⟩⟩
theorem Z9z {n g : Nat} {L : Array Bool → Act → World → Prop} {S : World → Prop} (hL : ∀ listed a w, L listed a w → wpAny P md ops Q g listed a w) :
  ∀ (f : Nat) (listed : Array Bool) (a : Act) (w : World), anyT P md ops Q n L f listed a w S → wpAny P md ops Q (f + g) listed a w
 | 0, listed, a, w, h => by rw [Nat.zero_add]; exact hL _ _ _ h
 | f + 1, listed, a, w, h => by
  rw [show f + 1 + g = (f + g) + 1 by omega]
  exact ⟨fun h0 => absurd h0 h.1, fun i hi => wpOp_mono (fun a' w' h' => Z9z hL f _ a' w' h'.2) (h.2 i hi).2⟩
def Z6t (md : Region.Mode) (ops : Array Oper) (n : Nat) : Bool := decide (n = ops.size) || (decide (n < ops.size) && Region.sinkB md ops n && Region.chainB md ops n)
theorem Z8s {n i : Nat} {listed : Array Bool} (h : Z6t md ops n = true) (inv : HeadInv md ops n listed) (hi : i < n) (hun : listed.getD i true = false) : ∀ j ∈ Region.ready md ops listed, j < n := by
 intro j hj
 simp only [Z6t, Bool.or_eq_true, Bool.and_eq_true, decide_eq_true_eq] at h
 rcases h with h | ⟨⟨h1, h2⟩, h3⟩
 ·subst h
  obtain ⟨_, o, ho, _⟩ := mem_ready.1 hj
  exact (Array.getElem?_eq_some_iff.1 ho).1
 ·rcases Nat.lt_or_ge j n with h | h
  ·exact h
  ·exact absurd hj (tail_waits h2 h3 h1 inv _ i rfl hi hun j h)
theorem Z91 {n i : Nat} {oi : Oper} {v : Value} {L : Array Bool → Act → World → Prop} (hi : ops[i]? = some oi) (hsel : ∀ (j : Nat) (o : Oper) cs b, ops[j]? = some o → o.op ≠ .select cs b)
  (hh : Z6t md ops n = true) (hin : i < n) (hdone : ∀ listed a w, L listed a w → ∀ j ∈ Region.ready md ops listed, n ≤ j) (hQ : ∀ c a w, Q (.panic c) (a.put oi.dst v) w → Q (.panic c) a w) :
  ∀ (f : Nat) (listed : Array Bool) (a : Act) (w : World), HeadInv md ops n listed →
   (∀ j oj, ops[j]? = some oj → j ≠ i → listed.getD j true = false → (∀ e ∈ oj.after, Region.binds md e = true → e.on ≠ i) → oi.apart ops oj = true) →
   i ∈ Region.ready md ops listed → YieldsIf P ops S oi v a → S w →
   anyT P md ops Q n L f (listed.setIfInBounds i true) (a.put oi.dst v) w S → anyT P md ops Q n L (f + 1) listed a w S := by
 intro f
 induction f with
 | zero =>
  intro listed a w inv _ hr hy hS H
  have hun := (mem_ready.1 hr).1
  refine ⟨fun h => (by rw [h] at hr; cases hr), fun j hj => ?_⟩
  have hjn := Z8s hh inv hin hun j hj
  refine ⟨hjn, ?_⟩
  by_cases hji : j = i
  ·subst hji; exact hy.wpOp hi hS ⟨hS, H⟩
  ·have := hdone _ _ _ H j (ready_mono hj hji)
   omega
 | succ f ih =>
  intro listed a w inv hfree hr hy hS H
  have hun := (mem_ready.1 hr).1
  refine ⟨fun h => (by rw [h] at hr; cases hr), fun j hj => ?_⟩
  have hjn := Z8s hh inv hin hun j hj
  refine ⟨hjn, ?_⟩
  by_cases hji : j = i
  ·subst hji; exact hy.wpOp hi hS ⟨hS, H⟩
  ·have h1 := (H.2 j (ready_mono hj hji)).2
   obtain ⟨hjun, oj, hoj, hall⟩ := mem_ready.1 hj
   have hnot : ∀ e ∈ oj.after, Region.binds md e = true → e.on ≠ i := fun e he hb heq => by
    have h1 := hall e he hb
    rw [heq, getD_both hun] at h1
    cases h1
   have h2 := wpOp_putIf hoj (hfree j oj hoj hji hjun hnot) (fun cs b => hsel i oi cs b hi) (fun cs b => hsel j oj cs b hoj) hQ hy h1
   have hfree' : ∀ k ok, ops[k]? = some ok → k ≠ i → (listed.setIfInBounds j true).getD k true = false →
     (∀ e ∈ ok.after, Region.binds md e = true → e.on ≠ i) → oi.apart ops ok = true := fun k ok hk hki hun hno => by
    refine hfree k ok hk hki ?_ hno
    by_cases hjk : j = k
    ·subst hjk; exact hjun
    ·rw [getD_set_ne true hjk] at hun; exact hun
   refine wpOp_mono (fun a' w' h3 => ⟨h3.2.1, ih (listed.setIfInBounds j true) a' w' (inv.set hj hjn) hfree' (ready_mono hr (Ne.symm hji)) h3.1 h3.2.1 ?_⟩) h2
   rw [Array.setIfInBounds_comm _ _ hji]
   exact h3.2.2
end
def Z7a (ops : Array Oper) (n : Nat) : List (Nat × Bool) → Array Bool → Bool
 | [], listed => Region.seqB .any ops (ops.size - n) n listed
 | (i, true) :: r, listed => decide (i < n) && (Region.ready .any ops listed).contains i && Region.free .any ops listed i && Z7a ops n r (listed.setIfInBounds i true)
 | (i, false) :: r, listed => decide (i < n) && decide (Region.ready .any ops listed = [i]) && Z7a ops n r (listed.setIfInBounds i true)
def drawB (ops : Array Oper) (n : Nat) (l : List (Nat × Bool)) : Bool :=
 Region.noSelect ops && Z6t .any ops n && decide (l.length = n) && decide (n ≤ ops.size) && Z7a ops n l (Array.replicate ops.size false)
section
variable {P : Program} {T : Tab} {X : Ctx} {s : St}
def DrawJ (P : Program) (X : Ctx) (ops : Array Oper) (n : Nat) (rest : List (Nat × Bool)) (listed : Array Bool) (K : St → Prop) (s : St) : Prop :=
 ∀ (Qc : Exit → Act → World → Prop) a w, (∀ c a b w, Qc (.panic c) a w → Qc (.panic c) b w) → (∀ s' a' w', K s' → Rep X s' a' w' → Qc .normal a' w') → Rep X s a w → HeadInv .any ops n listed →
  anyT P .any ops Qc n (fun listed a w => Region.seqB .any ops (ops.size - n) n listed = true ∧ wpList P ops Qc (ops.toList.drop n) a w) rest.length listed a w (Grow w)
variable {ops : Array Oper} {n : Nat} {rest : List (Nat × Bool)} {listed : Array Bool} {K : St → Prop}
theorem DrawJ.nil (hw : Z7a ops n [] listed = true) (h : WPO P X ops (ops.toList.drop n) K s) : DrawJ P X ops n [] listed K s := by
 intro Qc a w hQ hK hr inv
 exact ⟨hw, h Qc a w hK hr⟩
theorem Zan {listed : Array Bool} {a : Act} {w : World} {Qc : Exit → Act → World → Prop} (h : Region.seqB .any ops (ops.size - n) n listed = true ∧ wpList P ops Qc (ops.toList.drop n) a w) : ∀ j ∈ Region.ready .any ops listed, n ≤ j := seqB_ready h.1
theorem DrawJ.take {i : Nat} {o : Oper} (hi : ops[i]? = some o) (hs : Region.noSelect ops = true) (hh : Z6t .any ops n = true) (hin : i < n) (hr : (Region.ready .any ops listed).contains i = true) (hf : Region.free .any ops listed i = true)
  {x : AV} (hd : dOK X.n o.dst) (hy : ∀ σ F a w, RepAt X σ F s a w → ∃ v, YieldsIf P ops (Grow w) o v a ∧ RepV σ F w x v) (h : DrawJ P X ops n rest (listed.setIfInBounds i true) K (s.put o.dst x)) : DrawJ P X ops n ((i, true) :: rest) listed K s := by
 intro Qc a w hQ hK hrep inv
 obtain ⟨σ, F, hat⟩ := hrep
 obtain ⟨v, hv, hx⟩ := hy σ F a w hat
 have hr' : i ∈ Region.ready .any ops listed := by simpa using hr
 exact Z91 hi (Region.noSelect_spec hs) hh hin (fun _ _ _ h => Zan h) (fun c a w h => hQ c _ _ w h) rest.length listed a w inv (Region.free_spec hi hf) hr' hv (Grow.refl w)
  (h Qc _ w hQ hK ⟨σ, F, hat.put hd hx⟩ (inv.set hr' hin))
theorem DrawJ.only {i : Nat} {o : Oper} (hi : ops[i]? = some o) (hin : i < n) (hr : Region.ready .any ops listed = [i])
  (h : ∀ (Qc : Exit → Act → World → Prop) (next : Act → World → Prop) a w, (∀ s' a' w', DrawJ P X ops n rest (listed.setIfInBounds i true) K s' → Rep X s' a' w' → Grow w w' → next a' w') → Rep X s a w →
   if Region.wanted o (yielded ops a.tmps) then o.wp P a w next Qc else next (a.put o.dst undef) w) : DrawJ P X ops n ((i, false) :: rest) listed K s := by
 intro Qc a w hQ hK hrep inv
 refine ⟨by rw [hr]; simp, fun j hj => ?_⟩
 rw [hr, List.mem_singleton] at hj
 subst hj
 refine ⟨hin, ?_⟩
 have hj' : j ∈ Region.ready .any ops listed := by rw [hr]; simp
 have h1 := h Qc (fun a' w' => Grow w w' ∧ anyT P .any ops Qc n (fun listed a w => Region.seqB .any ops (ops.size - n) n listed = true ∧ wpList P ops Qc (ops.toList.drop n) a w) rest.length (listed.setIfInBounds j true) a' w' (Grow w)) a w
  (fun s' a' w' hd hr' hg => ⟨hg, Z86 (fun w2 h2 => hg.trans h2) _ _ _ _ (hd Qc a' w' hQ hK hr' (inv.set hj' hin))⟩) hrep
 unfold wpOp
 simp only [hi]
 split
 ·rename_i hw; rw [if_pos hw] at h1; exact .inl h1
 ·rename_i hw; rw [if_neg hw] at h1; exact h1
theorem Rep.drawn {a : Act} {w : World} (h : Rep X s a w) : Rep X s a { w with drawn := w.drawn + 1 } := by
 obtain ⟨σ, F, hr⟩ := h
 exact ⟨σ, F, hr.ext (Ext.drew w)⟩
end
end Go.Proofs.YtahlodpolggeiaaGreatDoor.Eng
set_option linter.unusedVariables false
set_option linter.unusedSimpArgs false
namespace Go.Proofs.YtahlodpolggeiaaGreatDoor.Eng
open Go Go.RowKit
def nthOp : List Oper → Nat → Option Oper
 | [], _ => none
 | o :: _, 0 => some o
 | _ :: r, j + 1 => nthOp r j
theorem nthOp_eq : ∀ (l : List Oper) (j : Nat), nthOp l j = l[j]?
 | [], j => by simp [nthOp]
 | o :: r, 0 => by simp [nthOp]
 | o :: r, j + 1 => by simp [nthOp, nthOp_eq r j]
def Z7y {α : Type} : List α → Nat → List α
 | l, 0 => l
 | [], _ + 1 => []
 | _ :: r, j + 1 => Z7y r j
theorem Z9t {α : Type} : ∀ (l : List α) (j : Nat), Z7y l j = l.drop j
 | l, 0 => by simp [Z7y]
 | [], j + 1 => by simp [Z7y]
 | o :: r, j + 1 => by simp [Z7y, Z9t r j]
@[irreducible] def OWEDG (P : Program) (X : Ctx) (o : Oper) (K : St → Prop) (s : St) : Prop := opWPG P X o K s
theorem OWEDG.intro {P : Program} {X : Ctx} {o : Oper} {K : St → Prop} {s : St} (h : opWPG P X o K s) : OWEDG P X o K s := by unfold OWEDG; exact h
section
variable {P : Program} {T : Tab} {B : Book} {X : Ctx} {s s' : St} {ops : Array Oper} {n : Nat} {rest : List (Nat × Bool)} {listed : Array Bool} {K : St → Prop}
theorem DrawJ.from (h : ∀ a w, Rep X s a w → Rep X s' a w) (k : DrawJ P X ops n rest listed K s') : DrawJ P X ops n rest listed K s :=
 fun Qc a w hQ hK hr inv => k Qc a w hQ hK (h a w hr) inv
theorem Z32 {j d : Nat} {b : Bool} (hj : (ops[j]?).bind (·.dst) = some d) (hn : d < X.n) (hd : envGet s.env d = .v (.bool b)) {a : Act} {w : World} (hr : Rep X s a w) : yielded ops a.tmps j = some b := by
 obtain ⟨σ, F, hr⟩ := hr
 have hv : a.tmps.getD d undef = .bool b := RepV.val (hd ▸ hr.env d)
 have hlt : d < a.tmps.size := by rw [hr.size]; exact hn
 have : a.tmps[d]? = some (.bool b) := by
  rw [Array.getElem?_eq_getElem hlt]
  rw [Array.getD_eq_getD_getElem?, Array.getElem?_eq_getElem hlt] at hv
  exact congrArg some hv
 simp [yielded, hj, this]
theorem OWEDG.run {o : Oper} (h : OWEDG P X o K s) : opWPG P X o K s := by unfold OWEDG at h; exact h
theorem opWPG.mono {o : Oper} {K K' : St → Prop} (h : opWPG P X o K s) (hk : ∀ s, K s → K' s) : opWPG P X o K' s :=
 fun Qc next a w hn hr => h Qc next a w (fun s' a' w' h1 h2 h3 => hn s' a' w' (hk _ h1) h2 h3) hr
theorem DrawJ.skip {i : Nat} {o : Oper} (hi : ops[i]? = some o) (hs : Region.noSelect ops = true) (hh : Z6t .any ops n = true) (hin : i < n) (hr : (Region.ready .any ops listed).contains i = true) (hf : Region.free .any ops listed i = true)
  (hwant : ∀ a w, Rep X s a w → Region.wanted o (yielded ops a.tmps) = false) (hd : dOK X.n o.dst) (h : DrawJ P X ops n rest (listed.setIfInBounds i true) K (s.put o.dst .any)) : DrawJ P X ops n ((i, true) :: rest) listed K s :=
 DrawJ.take hi hs hh hin hr hf hd (fun σ F a w hat => ⟨undef, .inr ⟨hwant a w ⟨σ, F, hat⟩, rfl⟩, .f _ _ (.any _)⟩) h
end
end Go.Proofs.YtahlodpolggeiaaGreatDoor.Eng
set_option linter.unusedVariables false
set_option linter.unusedSimpArgs false
namespace Go.Proofs.YtahlodpolggeiaaGreatDoor.Eng
open Go Go.RowKit
def leEnv (env : List (Nat × AV)) : List (Nat × AV) → Prop
 | [] => True
 | (i, x) :: r => AV.le (envGet env i) x ∧ leEnv env r
theorem Zb6 {env : List (Nat × AV)} : ∀ {env' : List (Nat × AV)}, leEnv env env' → ∀ i, AV.le (envGet env i) (envGet env' i)
 | [], _, i => .any _
 | (j, x) :: r, h, i => by
  simp only [envGet]
  split
  ·rename_i e; subst e; exact h.1
  ·exact Zb6 h.2 i
def Z11 (n : Nat) : AV → AV
 | .own id sz off len => if id < n then .own id sz off len else .any
 | .ptr id i sz j => if id < n then .ptr id i sz j else .any
 | .nm id k => if id < n then .nm id k else .any
 | x => x
theorem Z7v (n id : Nat) : idx (List.range n) id = if id < n then some id else none := by
 split
 ·rename_i h
  cases hi : idx (List.range n) id with
  | none => exact absurd (List.mem_range.2 h) (idx_none hi)
  | some k =>
   have := idx_some hi
   rw [List.getElem?_range (by have := (List.getElem?_eq_some_iff.1 this).1; simpa using this)] at this
   exact this
 ·rename_i h
  cases hi : idx (List.range n) id with
  | none => rfl
  | some k =>
   have := List.mem_of_getElem? (idx_some hi)
   exact absurd (List.mem_range.1 this) h
theorem Z4x (n : Nat) : Z11 n = Z1b (List.range n) := by
 funext x
 cases x with
 | own id sz off len => simp only [Z11, Z1b, Z7v]; split <;> rfl
 | ptr id i sz j => simp only [Z11, Z1b, Z7v]; split <;> rfl
 | nm id k => simp only [Z11, Z1b, Z7v]; split <;> rfl
 | _ => rfl
def St.trim (s : St) (n : Nat) : St := ⟨Z12 (Z11 n) s.env, (s.heap.take n).map (AObj.sub (Z11 n))⟩
theorem Rep.trim {X : Ctx} {s : St} {a : Act} {w : World} {n : Nat} (hm : X.m ≤ n) (hn : n ≤ s.heap.length) (h : Rep X s a w) : Rep X (s.trim n) a w := by
 obtain ⟨σ, F, hr⟩ := h
 have hsel : ∀ id, id < n → selσ (List.range n) σ id = σ id := fun id h => by simp [selσ, List.getElem?_range h]
 refine ⟨selσ (List.range n) σ, F, hr.defers, hr.size, fun i => ?_, ?_, hr.keep, fun id g h => ?_, hr.fnew, fun id hid => ?_, by simp [St.trim, hn, hm]⟩
 ·simp only [St.trim, Zm, Z4x]
  exact (hr.env i).sel
 ·have h1 := hr.heap.sel (keep := List.range n) List.nodup_range (fun i hi => Nat.lt_of_lt_of_le (List.mem_range.1 hi) hn)
  have h2 : (s.trim n).heap = Z13 (List.range n) s.heap := by
   simp only [St.trim, Z4x, Z13]
   apply List.ext_getElem?
   intro i
   simp only [List.getElem?_map, List.getElem?_take]
   by_cases hi : i < n
   ·rw [if_pos hi, List.getElem?_range hi, List.getElem?_eq_getElem (Nat.lt_of_lt_of_le hi hn)]
    simp [List.getElem?_eq_getElem (Nat.lt_of_lt_of_le hi hn)]
   ·rw [if_neg hi, List.getElem?_eq_none (by simpa using hi)]
    rfl
  rw [h2]; exact h1
 ·obtain ⟨i, _, h1⟩ := Z2i h
  exact hr.own _ _ h1
 ·rw [hsel id (Nat.lt_of_lt_of_le hid hm)]
  exact hr.stab id hid
def Tells (m : Nat) (s s' : St) : Prop := m ≤ s'.heap.length ∧ s'.heap.length ≤ s.heap.length ∧ (s.trim s'.heap.length).heap = s'.heap ∧ leEnv (s.trim s'.heap.length).env s'.env
theorem Tells.rep {X : Ctx} {s s' : St} {m : Nat} (hm : X.m = m) (h : Tells m s s') {a : Act} {w : World} (hr : Rep X s a w) : Rep X s' a w := by
 obtain ⟨h1, h2, h3, h4⟩ := h
 obtain ⟨σ, F, hr⟩ := Rep.trim (by omega) h2 hr
 exact ⟨σ, F, hr.le ⟨h3, Zb6 h4⟩⟩
theorem AV.le_of_eq {x y : AV} (h : x = y) : AV.le x y := h ▸ .refl x
section
variable {P : Program} {T : Tab} {B : Book} {X : Ctx} {s : St} {Q : Exit → St → Prop} {c : Code} {n m : Nat}
theorem WP.from {s' : St} (h : ∀ a w, Rep X s a w → Rep X s' a w) (k : WP P X c Q s') : WP P X c Q s := fun a w hr => k a w (h a w hr)
theorem LOOP.ghost {α : Type} (I : α → St) (Inv : α → Prop) (μ : α → Nat) (g0 : α) (hT : Zg P T) (hB : BookOK P B) (hn : X.n = n) (hm : X.m = m) (hro : X.ro = none) (h0 : Inv g0) (hs : Tells m s (I g0))
  (step : ∀ g, Inv g → ex P T B X n m c (Zc6 (fun s' => ∃ g', Tells m s' (I g') ∧ Inv g' ∧ μ g' < μ g) Q) (I g)) : LOOP P X (.loop c) Q s := by
 refine LOOP.intro (WP.from (fun a w => hs.rep hm) ?_)
 rintro a w hr
 refine Z1l (fun k a w => ∃ g, μ g = k ∧ Inv g ∧ Rep X (I g) a w) (μ g0) ⟨g0, rfl, h0, hr⟩ ?_
 rintro k a w ⟨g, rfl, hg, hr⟩
 refine wpIn_mono (ex_at hT hB hn hm hro (step g hg) a w hr) ?_
 rintro e a w ⟨s', h1, h2⟩
 cases e with
 | normal =>
  obtain ⟨g', ht, hg', hlt⟩ := h1
  exact ⟨μ g', hlt, g', rfl, hg', ht.rep hm h2⟩
 | _ => exact ⟨s', h1, h2⟩
theorem LOOP.code (hT : Zg P T) (hB : BookOK P B) (hn : X.n = n) (hm : X.m = m) (hro : X.ro = none) (h : ex P T B X n m c Q s) : LOOP P X c Q s := LOOP.intro (ex_at hT hB hn hm hro h)
def nilOwn (s : St) (d : Nat) (e sz : Nat) : St := ⟨(d, .own s.heap.length sz 0 0) :: s.env, s.heap ++ [.row e sz []]⟩
theorem Rep.nilOwn {a : Act} {w : World} {d e sz : Nat} (hd : envGet s.env d = .v (.slice none 0 0)) (h : Rep X s a w) : Rep X (Eng.nilOwn s d e sz) a w := by
 obtain ⟨σ, F, hr⟩ := h
 have hv : a.tmps.getD d undef = .slice none 0 0 := RepV.val (hd ▸ hr.env d)
 have h1 := hr.newNil e sz
 refine ⟨_, F, ⟨h1.defers, h1.size, fun i => ?_, h1.heap, h1.keep, h1.own, h1.fnew, h1.stab, h1.hm⟩⟩
 simp only [Eng.nilOwn, envGet]
 split
 ·rename_i e; subst e; rw [hv]; exact .own0 _ _ (Z2 _ _ _)
 ·exact h1.env i
theorem LOOP.nilOwn (d e sz : Nat) (hd : envGet s.env d = .v (.slice none 0 0)) (h : LOOP P X c Q (Eng.nilOwn s d e sz)) : LOOP P X c Q s :=
 LOOP.intro (WP.from (fun a w => Rep.nilOwn hd) (by unfold LOOP at h; exact h))
theorem LOOP.freeze (id : Nat) (h : LOOP P X c Q (s.freeze id)) : LOOP P X c Q s :=
 LOOP.intro (WP.from (fun a w hr => Rep.freeze hr id) (by unfold LOOP at h; exact h))
theorem LOOP.tells {s' : St} (hm : X.m = m) (ht : Tells m s s') (h : LOOP P X c Q s') : LOOP P X c Q s :=
 LOOP.intro (WP.from (fun a w => ht.rep hm) (by unfold LOOP at h; exact h))
end
def FPost (P : Program) (f : Nat) (args : List AV) (post : AV → Prop) : Prop := FSpec P f [] args (fun r h => post r ∧ h = [])
abbrev FPure (P : Program) (f : Nat) (args : List AV) (R : AV) : Prop := FPost P f args (fun r => r = R)
def Done (T : Tab) (rs : List ResultVar) (post : AV → Prop) (s : St) : Prop :=
 match Z3l T s rs with
 | some (_, xs0) => match Z3l T (freezeAll s (AV.idsL xs0)) rs with
  | some (c, xs) => c ∧ (retAV xs).sub (Z1b []) = retAV xs ∧ ∃ ret, post ret ∧ AV.le (retAV xs) ret
  | none => False
 | none => False
def Qpure (T : Tab) (rs : List ResultVar) (post : AV → Prop) : Exit → St → Prop
 | .normal, s => Done T rs post s
 | .ret, s => Done T rs post s
 | _, _ => False
theorem WP.monoR {P : Program} {X : Ctx} {c : Code} {Q Q' : Exit → St → Prop} {s : St} (h : WP P X c Q s) (hq : ∀ e s, Q e s → ∃ s', (∀ a w, Rep X s a w → Rep X s' a w) ∧ Q' e s') : WP P X c Q' s :=
 fun a w hr => wpIn_mono (h a w hr) fun e a w ⟨s, h1, h2⟩ => let ⟨s', h3, h4⟩ := hq e s h1; ⟨s', h4, h3 a w h2⟩
theorem FSpec.of_WP' {P : Program} {T : Tab} (hT : Zg P T) {f : Nat} {fn : Func} {c : Code} (hf : P.funcs[f]? = some fn) (hb : fn.body = some c) {h0 : List AObj} {args : List AV} {post : AV → List AObj → Prop}
  (h : ∀ X : Ctx, X.n = args.length + (fn.ntmps - args.length) → X.m = h0.length → X.ro = none → X.rf = false → WP P X c (Qret T fn h0.length post) ⟨Zt 0 args, h0⟩) : FSpec P f h0 args post := by
 intro σ F w vs hh hl hargs
 let X : Ctx := ⟨args.length + (fn.ntmps - args.length), w, ownB σ, F, h0.length, σ, none, false⟩
 refine calls_of_wp hf hb ?_
 have hrep : RepAt X σ F ⟨Zt 0 args, h0⟩ { tmps := vs.toArray ++ Array.replicate (fn.ntmps - vs.toArray.size) undef, defers := [] } w := by
  refine ⟨rfl, by simp [X, hl], fun i => ?_, hh, Keep.refl _ _, fun id g h => .inl ⟨id, h⟩, fun b hb => .inl hb, fun id _ => .inl rfl, Nat.le_refl _⟩
  rw [envGet_enum, if_pos (Nat.zero_le _), Nat.sub_zero]
  cases hx : args[i]? with
  | none => exact .f _ _ (.any _)
  | some x =>
   have hlt : i < vs.length := by have := (List.getElem?_eq_some_iff.1 hx).1; omega
   have : (vs.toArray ++ Array.replicate (fn.ntmps - vs.toArray.size) undef).getD i undef = vs[i] := by
    rw [Array.getD_eq_getD_getElem?, Array.getElem?_append_left (by simpa using hlt)]
    simp [hlt]
   rw [this]
   exact hargs i x _ hx (List.getElem?_eq_getElem hlt)
 refine Code.wp_mono' ((WP.wide rfl).1 (h X rfl rfl rfl rfl _ _ ⟨σ, F, hrep⟩)) ?_
 have fin : ∀ s a w', Ret T fn h0.length post s → Rep X s a w' → a.defers = [] ∧ ∃ v, (results fn a.tmps).run P w' = .ok v w' ∧ ∃ ret h' σ' F' rv, post ret h' ∧ Ending.returned v = .returned rv ∧ RepV σ' F' w' ret rv ∧ HRep σ' F' w' h' ∧ Keep (ownB σ) w w' ∧
   (∀ id g, hasB σ' id g → ownB σ g ∨ w.heap.size ≤ g) ∧ (∀ b, F' b → F b ∨ ownB σ b ∨ w.heap.size ≤ b) ∧ (∀ id, id < h0.length → σ' id = σ id ∨ σ' id = none) ∧ h0.length ≤ h'.length := by
  rintro s a w' hret ⟨σ', F', hr⟩
  unfold Ret at hret
  split at hret
  ·rename_i c xs hres
   obtain ⟨hc, extra, hnd, hin, ret, hle, hpost⟩ := hret
   obtain ⟨v, hv, hrv⟩ := Z5t hT hr hres hc
   have hin' : ∀ i ∈ List.range h0.length ++ extra, i < s.heap.length := fun i hi => by
    rcases List.mem_append.1 hi with h1 | h1
    ·have := hr.hm; have h2 := List.mem_range.1 h1; exact Nat.lt_of_lt_of_le h2 this
    ·exact hin i h1
   refine ⟨hr.defers, v, hv, ret, _, selσ (List.range h0.length ++ extra) σ', F', v, hpost, rfl, RepV.le hle hrv.sel, hr.heap.sel hnd hin', hr.keep, fun id g hs => ?_, hr.fnew, fun id hid => ?_, by simp [Z13]⟩
   ·obtain ⟨i, _, h1⟩ := Z2i hs
    exact hr.own _ _ h1
   ·have : selσ (List.range h0.length ++ extra) σ' id = σ' id := by
     simp [selσ, List.getElem?_append_left (show id < (List.range h0.length).length by simpa using hid), List.getElem?_range hid]
    rw [this]
    exact hr.stab id hid
  ·exact hret.elim
 rintro e a w' ⟨s, hq, hr⟩
 cases e with
 | normal => exact fin s a w' hq hr
 | ret => exact fin s a w' hq hr
 | _ => exact hq.elim
theorem FPost.of {P : Program} {T : Tab} {B : Book} (hT : Zg P T) (hB : BookOK P B) {f : Nat} {fn : Func} {c : Code} {n : Nat} {rs : List ResultVar} {args : List AV} {post : AV → Prop} (hf : P.funcs[f]? = some fn) (hb : fn.body = some c) (hn : args.length + (fn.ntmps - args.length) = n) (hr : fn.results.toList = rs)
  (h : ∀ X : Ctx, X.n = n → X.m = 0 → ex P T B X n 0 c (Qpure T rs post) ⟨Zt 0 args, []⟩) : FPost P f args post := by
 refine FSpec.of_WP' hT hf hb (fun X hXn hXm hro _ => ?_)
 have h1 : WP P X c (Qpure T rs post) ⟨Zt 0 args, []⟩ := ex_at hT hB (hXn.trans hn) hXm hro (h X (hXn.trans hn) hXm)
 refine h1.monoR (fun e s hq => ?_)
 have key : Done T rs post s → ∃ s', (∀ a w, Rep X s a w → Rep X s' a w) ∧ Ret T fn 0 (fun r h => post r ∧ h = []) s' := by
  intro hq
  unfold Done at hq
  split at hq
  ·rename_i c0 xs0 h0
   split at hq
   ·rename_i c1 xs h1
    refine ⟨freezeAll s (AV.idsL xs0), fun a w hr => Rep.freezeAll _ _ hr, ?_⟩
    unfold Ret
    rw [hr, h1]
    obtain ⟨h2, h3, ret, h4, h5⟩ := hq
    refine ⟨h2, [], by simp, by simp, ret, ?_, h4, by simp [Z13]⟩
    have : List.range 0 ++ [] = ([] : List Nat) := rfl
    rw [this, h3]
    exact h5
   ·exact hq.elim
  ·exact hq.elim
 cases e with
 | normal => exact key hq
 | ret => exact key hq
 | _ => exact hq.elim
section
variable {P : Program} {T : Tab} {B : Book} {X : Ctx} {s : St} {o : Oper} {K : St → Prop}
theorem OWED.call {fop : Operand} {ar : Array Operand} {ts : Array Nat} (ho : o.op = .call { callee := .value fop, args := ar, argTypes := ts }) {f : Nat} (hf : s.ev fop = .fn f []) (hE : Enters P f) {args' : List AV} {post : AV → Prop} (spec : FPost P f args' post)
  (hargs : AV.leL ((ar.toList.map s.ev).map (AV.sub (Z1b []))) args') (hd : dOK X.n o.dst) (hK : ∀ ret, post ret → K (St.put s o.dst (ret.sub (Z20 [] s.heap.length)))) : OWED P X o K s := by
 refine OWED.intro (Zfp ho hf hE [] List.nodup_nil (by simp) (by simpa using hargs) (h0 := []) rfl spec hd (fun ret h' hp hl => ?_))
 obtain ⟨h1, rfl⟩ := hp
 refine ⟨fun k hk => absurd hk (Nat.not_lt_zero _), ?_⟩
 rw [Z9v]
 exact hK ret h1
end
end Go.Proofs.YtahlodpolggeiaaGreatDoor.Eng
set_option linter.unusedVariables false
namespace Go.Proofs.YtahlodpolggeiaaGreatDoor.Eng
open Go Go.RowKit
section
variable {P : Program} {T : Tab} {B : Book} {X : Ctx} {n m : Nat} {Q : Exit → St → Prop} {K : St → Prop} {v : List (Nat × AV)} {h : List AObj}
end
end Go.Proofs.YtahlodpolggeiaaGreatDoor.Eng
namespace Go.Proofs.YtahlodpolggeiaaGreatDoor.Eng
open Go Go.RowKit
def addB (B : Book) (k : Nat) (e : List AV → Option (Prop × AV)) : Book := fun f args => if f = k then e args else B f args
theorem BookOK.add {P : Program} {B : Book} (hB : BookOK P B) {k : Nat} {e : List AV → Option (Prop × AV)} (hE : Enters P k) (h : ∀ args c R, e args = some (c, R) → c → FPure P k args R) : BookOK P (addB B k e) := fun f args c R hb hc => by
 unfold addB at hb
 split at hb
 ·rename_i hf; subst hf; exact ⟨hE, h args c R hb hc⟩
 ·exact hB f args c R hb hc
end Go.Proofs.YtahlodpolggeiaaGreatDoor.Eng
namespace Go.Proofs.YtahlodpolggeiaaGreatDoor.Eng
open Go Go.RowKit
end Go.Proofs.YtahlodpolggeiaaGreatDoor.Eng
namespace Go.Proofs.YtahlodpolggeiaaGreatDoor.Eng
end Go.Proofs.YtahlodpolggeiaaGreatDoor.Eng
set_option linter.unusedVariables false
set_option linter.unusedSimpArgs false
namespace Go.Proofs.YtahlodpolggeiaaGreatDoor.Eng
open Go Go.RowKit
def Z9s (T : Tab) (ft : Nat) : AV → AV → Option Bool
 | .v (.int k a), .v (.int k' b) => match T ft with
  | some ⟨.int _, 1, _, _⟩ => if k = k' then some (a == b) else none
  | _ => none
 | .v (.bool a), .v (.bool b) => match T ft with
  | some ⟨.bool, 1, _, _⟩ => some (a == b)
  | _ => none
 | .v (.string a), .v (.string b) => match T ft with
  | some ⟨.str, 1, _, _⟩ => some (a == b)
  | _ => none
 | _, _ => none
def Z4s (T : Tab) : List (Nat × Nat) → List AV → List AV → Option Bool
 | [], _, _ => some true
 | (off, ft) :: r, xs, ys => match Z9s T ft ((xs[off]?).getD .any) ((ys[off]?).getD .any), Z4s T r xs ys with
  | some p, some q => some (p && q)
  | _, _ => none
def eqB (P : Program) (t : Nat) : Bool := !P.stoodInHeld t && !P.eqGuardType P.depth t && (P.fieldsOf t).toList.all (fun f => f.name != "_")
section
variable {P : Program} {T : Tab} {X : Ctx} {σ : Nat → Option Blk} {F : Nat → Prop} {s : St} {a : Act} {w : World} {o : Oper} {K : St → Prop}
theorem Zgs (hT : Zg P T) {ft : Nat} {u v : Value} {q : Bool} (h : Z9s T ft (.v u) (.v v) = some q) (d : Nat) : (Op.equalIn (d + 1) ft u v).run P w = .ok q w := by
 unfold Z9s at h
 split at h
 ·rename_i e1 e2
  cases e1; cases e2
  split at h
  ·rename_i ht
   split at h
   ·rename_i hk
    subst hk
    cases h
    simp [Op.equalIn, run_underlying (hT _ _ ht).kind]
   ·cases h
  ·cases h
 ·rename_i e1 e2
  cases e1; cases e2
  split at h
  ·rename_i ht
   cases h
   simp [Op.equalIn, run_underlying (hT _ _ ht).kind]
  ·cases h
 ·rename_i e1 e2
  cases e1; cases e2
  split at h
  ·rename_i ht
   cases h
   simp [Op.equalIn, run_underlying (hT _ _ ht).kind]
  ·cases h
 ·cases h
theorem eqOne_v {ft : Nat} {x y : AV} {q : Bool} (h : Z9s T ft x y = some q) : (∃ u, x = .v u) ∧ (∃ v, y = .v v) ∧ ∃ i, T ft = some i ∧ i.size = 1 ∧ i.k.agg = false := by
 unfold Z9s at h
 split at h
 ·split at h
  ·rename_i ht; exact ⟨⟨_, rfl⟩, ⟨_, rfl⟩, _, ht, rfl, rfl⟩
  ·cases h
 ·split at h
  ·rename_i ht; exact ⟨⟨_, rfl⟩, ⟨_, rfl⟩, _, ht, rfl, rfl⟩
  ·cases h
 ·split at h
  ·rename_i ht; exact ⟨⟨_, rfl⟩, ⟨_, rfl⟩, _, ht, rfl, rfl⟩
  ·cases h
 ·cases h
theorem Z6o (hT : Zg P T) {xs ys : List AV} {us vs : List Value} (hx : ∀ (j : Nat) (u : Value), xs[j]? = some (.v u) → us[j]? = some u) (hy : ∀ (j : Nat) (u : Value), ys[j]? = some (.v u) → vs[j]? = some u) (d : Nat) :
  ∀ (fl : List Field) (q : Bool), fl.all (fun f => f.name != "_") = true → Z4s T (fl.map fun f => (f.offset, f.type)) xs ys = some q → (Op.eqFields (d + 1) us.toArray vs.toArray fl).run P w = .ok q w
 | [], q, hn, h => by simp [Z4s] at h; subst h; simp [Op.eqFields]
 | f :: fl, q, hn, h => by
  simp only [List.map_cons, Z4s] at h
  split at h
  ·rename_i p r hp hr
   cases h
   simp only [List.all_cons, Bool.and_eq_true] at hn
   obtain ⟨⟨u, hu⟩, ⟨v, hv⟩, i, hi, h1, h2⟩ := eqOne_v hp
   have hgx : us[f.offset]? = some u := by
    cases hq : xs[f.offset]? with
    | none => rw [hq] at hu; cases hu
    | some z => rw [hq] at hu; simp at hu; subst hu; exact hx _ _ hq
   have hgy : vs[f.offset]? = some v := by
    cases hq : ys[f.offset]? with
    | none => rw [hq] at hv; cases hv
    | some z => rw [hq] at hv; simp at hv; subst hv; exact hy _ _ hq
   have hpx : (part f.type us.toArray f.offset).run P w = .ok u w := by simp [part, (hT _ _ hi).agg_run, h2, hgx]
   have hpy : (part f.type vs.toArray f.offset).run P w = .ok v w := by simp [part, (hT _ _ hi).agg_run, h2, hgy]
   rw [hu, hv] at hp
   have hn' : f.name ≠ "_" := by simpa using hn.1
   have ih := Z6o hT hx hy d fl r hn.2 hr
   rw [Op.eqFields]
   simp only [if_pos hn', Sem.run_bind, hpx, hpy, Zgs hT hp d, Result.andThen_ok]
   cases p
   ·simp
   ·simpa using ih
  ·cases h
theorem op_ifc {op : BinOp} {t t' : Nat} {y : Operand} {b : Bool} (hop : eqOp op = some b) (ho : o.op = .binOp op t y (.const .nilIface) t') {ms : Array (String × TypeId)} (hu : P.underlying t = some (.interface ms)) (hy : s.ev y = .v .nilIface) (hd : dOK X.n o.dst) (hK : K (s.put o.dst (.v (.bool (!b))))) : opWP P X o K s := by
 rintro Qc next a w hn ⟨σ, F, hr⟩
 have hvy : a.eval y = .nilIface := RepV.val (hy ▸ hr.ev y)
 have hvz : a.eval (.const .nilIface) = .nilIface := rfl
 have hq : (Op.equal t .nilIface .nilIface).run P w = .ok true w := by
  have h4 : ∀ d, (Op.equalIn (d + 1) t .nilIface .nilIface).run P w = .ok true w := fun d => by simp [Op.equalIn, run_underlying hu]
  exact h4 9999
 have hg : ∀ op : BinOp, (eqGuard op t y (.const .nilIface) .nilIface .nilIface).run P w = .ok () w := fun op => by
  cases op <;> simp [eqGuard]
 have hg := hg op
 have hex : (execOp a.eval o).run P w = .ok (.value (.bool (!b))) w := by
  unfold eqOp at hop
  split at hop
  ·rename_i e; subst e; cases hop
   simp only [execOp, ho, hvy, hvz, Sem.run_bind, hg, Result.andThen_ok, binOp, hq, Sem.run_pure]
   rfl
  ·split at hop
   ·rename_i e; subst e; cases hop
    simp only [execOp, ho, hvy, hvz, Sem.run_bind, hg, Result.andThen_ok, binOp, hq, Sem.run_pure]
   ·cases hop
 unfold Oper.wp
 rw [hex]
 exact hn _ _ _ hK ⟨σ, F, hr.put hd (.f _ _ (.v _))⟩
theorem op_eqs (hT : Zg P T) {op : BinOp} {t t' : Nat} {y z : Operand} {b : Bool} (hop : eqOp op = some b) (ho : o.op = .binOp op t y z t') {fs : List (Nat × Nat)} {n m : Nat} {zv : Value} (ht : T t = some ⟨.struct fs, n, m, zv⟩) (hE : eqB P t = true) {xs ys : List AV} (hx : s.ev y = .agg xs) (hy : s.ev z = .agg ys)
  {q : Bool} (he : Z4s T fs xs ys = some q) (hd : dOK X.n o.dst) (hK : K (s.put o.dst (.v (.bool (q != b))))) : opWP P X o K s := by
 rintro Qc next a w hn ⟨σ, F, hr⟩
 obtain ⟨us, hu, hul, _, huc⟩ := RepV.aggv (hx ▸ hr.ev y)
 obtain ⟨vs, hv, hvl, _, hvc⟩ := RepV.aggv (hy ▸ hr.ev z)
 obtain ⟨ar, hur, hm⟩ := (hT _ _ ht).kind
 subst hm
 simp only [eqB, Bool.and_eq_true, Bool.not_eq_true'] at hE
 obtain ⟨⟨h1, h2⟩, h3⟩ := hE
 have hf : P.fieldsOf t = ar := by simp [Program.fieldsOf, hur]
 have get : ∀ {xs : List AV} {us : List Value}, xs.length = us.length → (∀ (j : Nat) (x : AV) (u : Value), xs[j]? = some x → us[j]? = some u → RepV σ F w x u) → ∀ (j : Nat) (u : Value), xs[j]? = some (.v u) → us[j]? = some u := fun {xs us} hl hc j u hj => by
  have hlt : j < us.length := by have := (List.getElem?_eq_some_iff.1 hj).1; omega
  rw [List.getElem?_eq_getElem hlt]
  exact congrArg some (RepV.val (hc j _ _ hj (List.getElem?_eq_getElem hlt)))
 have hrun : (Op.equal t (.agg us.toArray) (.agg vs.toArray)).run P w = .ok q w := by
  have h4 : ∀ d, (Op.equalIn (d + 1 + 1) t (.agg us.toArray) (.agg vs.toArray)).run P w = .ok q w := fun d => by
   rw [run_equalIn_struct (P := P) (w := w) _ _ _ _ (by rw [hf]; exact hur) h1, hf]
   exact Z6o hT (get hul huc) (get hvl hvc) d ar.toList q (by rw [← hf]; exact h3) he
  exact h4 9998
 have hg0 : ∀ op : BinOp, (eqGuard op t y z (.agg us.toArray) (.agg vs.toArray)).run P w = .ok () w := fun op => by
  cases op <;> simp [eqGuard, h2]
 have hg := hg0 op
 have hex : (execOp a.eval o).run P w = .ok (.value (.bool (q != b))) w := by
  unfold eqOp at hop
  split at hop
  ·rename_i e; subst e; cases hop
   simp only [execOp, ho, hu, hv, Sem.run_bind, hg, Result.andThen_ok, binOp, hrun, Sem.run_pure]
   simp
  ·split at hop
   ·rename_i e; subst e; cases hop
    simp only [execOp, ho, hu, hv, Sem.run_bind, hg, Result.andThen_ok, binOp, hrun, Sem.run_pure]
    simp
   ·cases hop
 unfold Oper.wp
 rw [hex]
 exact hn _ _ _ hK ⟨σ, F, hr.put hd (.f _ _ (.v _))⟩
end
end Go.Proofs.YtahlodpolggeiaaGreatDoor.Eng
set_option linter.unusedVariables false
set_option linter.unusedSimpArgs false
namespace Go.Proofs.YtahlodpolggeiaaGreatDoor.Eng
open Go Go.RowKit
theorem beqB (a b : ByteArray) : (a == b) = decide (a = b) := by
 rw [Bool.eq_iff_iff, MapKept.bytes_beq]; simp
theorem Z47 (b : ByteArray) : ∀ (l : List MapEntry) (es : List (ByteArray × Value)) (i : Nat), l.map Z3o = es.map pairK →
  (Instr.findNow .string (.string b) l i = some none ∧ Z10 b es = none ∧ ∀ v, Z7m b v es = es ++ [(b, v)]) ∨
  ∃ j e, Instr.findNow .string (.string b) l i = some (some (i + j, e.val)) ∧ Z10 b es = some e.val ∧ l[j]? = some e ∧ e.key = .string b ∧ ∀ v, (l.modify j fun e => { e with key := .string b, val := v }).map Z3o = (Z7m b v es).map pairK
 | [], [], i, _ => .inl ⟨rfl, rfl, fun v => rfl⟩
 | [], p :: es, i, h => by simp at h
 | e :: l, [], i, h => by simp at h
 | e :: l, p :: es, i, h => by
  simp only [List.map_cons, List.cons.injEq] at h
  obtain ⟨h1, h2⟩ := h
  have hk : e.key = .string p.1 := congrArg Prod.fst h1
  have hv : e.val = p.2 := congrArg Prod.snd h1
  have hs : Instr.sameNow .string (.string b) e.key = some (decide (b = p.1)) := by rw [hk]; simp only [Instr.sameNow, beqB]
  simp only [Instr.findNow, hs, Z10, Z7m]
  cases hd : decide (b = p.1) with
  | true =>
   have hb := of_decide_eq_true hd
   exact .inr ⟨0, e, rfl, by simp [hv], rfl, by rw [hk, hb], fun v => by simp [Z3o, pairK, h2]⟩
  | false =>
   rcases Z47 b l es (i + 1) h2 with ⟨h3, h4, h5⟩ | ⟨j, e', h3, h4, h5, h6, h7⟩
   ·exact .inl ⟨h3, h4, fun v => by simp [h5]⟩
   ·refine .inr ⟨j + 1, e', ?_, h4, by simpa using h5, h6, fun v => ?_⟩
    ·simp only [h3]; congr 3; omega
    ·simp only [List.modify_succ_cons, List.map_cons, h7, h1]
def Z4w (v : Value) : AV := match v with
 | .agg vs => (match vs.toList.all Value.oneCell' with
  | true => .agg (vs.toList.map AV.v)
  | false => .v v)
 | _ => .v v
def lkAV (ok : Bool) (q : Option Value) (z : Value) : AV := match ok with
 | true => .tup [Z4w (q.getD z), .v (.bool q.isSome)]
 | false => Z4w (q.getD z)
section
variable {P : Program} {T : Tab} {X : Ctx} {σ σ' : Nat → Option Blk} {F F' : Nat → Prop} {s s' : St} {a : Act} {w w' : World} {o : Oper} {c : Prop} {x : AV} {v : Value} {K : St → Prop}
theorem Zch {t : Nat} (ho : o.op = .makeMap t none) (hd : dOK X.n o.dst)
  (hK : K (St.put { s with heap := s.heap ++ [.mapo []] } o.dst (.nm s.heap.length []))) : opWPG P X o K s := by
 refine opWPG.mem (fun σ F a w hr => ?_) hd
 refine ⟨.map (some w.heap.size), w.alloc (.map #[] 0), _, F, _, _, ?_, Grow.alloc w _, (hr.ext (Ext.alloc w (.map #[] 0))).new (k := .ext (fun h => h = w.heap.size) fun _ => .map (some w.heap.size)) (ob := .mapo []) ?_ (fun g hg => ?_), ?_, hK⟩
 ·simp only [execOp, ho, Option.map_none, Sem.run_bind, run_makeMap, Result.andThen_ok]
  rfl
 ·exact ⟨w.heap.size, #[], 0, Z2 _ _ _, heap_alloc_new w _, .nil⟩
 ·have e1 : g = w.heap.size := hg
  subst e1
  refine ⟨by simp, fun hF => ?_, hr.keep.size, fun id h => ?_⟩
  ·have := hr.heap.flt _ hF; omega
  ·have := (hr.heap.lt _ _ h).1; omega
 ·exact .nm s.heap.length [] _ _ (Z2 _ _ _) rfl
theorem Zjg (hr : RepAt X σ F s a w) {y : Operand} {id : Nat} {k : List Nat} (hy : s.ev y = .nm id k) {es : List (ByteArray × Value)} (hq : s.heap[id]? = some (.mapo es)) :
  ∃ g arr clock, σ id = some (.ext (fun h => h = g) fun _ => .map (some g)) ∧ a.eval y = .map (some g) ∧ w.heap[g]? = some (.map arr clock) ∧ MapIs arr clock es := by
 obtain ⟨g, arr, clock, h1, h2, h3⟩ := hr.heap.obj id _ hq
 obtain ⟨gs, V, h4, h5⟩ := RepV.nmv (hy ▸ hr.ev y)
 rw [h1] at h4
 cases h4
 exact ⟨g, arr, clock, h1, h5, h2, h3⟩
theorem RepV.tup2 (x y : Value) : RepV σ F w (.tup [.v x, .v y]) (.tuple #[x, y]) := by
 refine .tup _ [x, y] rfl (fun j a b ha hb => ?_)
 match j with
 | 0 => simp at ha hb; subst ha hb; exact .f _ _ (.v _)
 | 1 => simp at ha hb; subst ha hb; exact .f _ _ (.v _)
 | j + 2 => simp at ha
theorem RepV.vAV (v : Value) : RepV σ F w (Z4w v) v := by
 unfold Z4w
 split
 ·rename_i vs
  split
  ·rename_i h
   rw [List.all_eq_true] at h
   have h2 : RepV σ F w (.agg (vs.toList.map AV.v)) (.agg vs.toList.toArray) := .agg _ vs.toList (by simp) h (fun j x u hx hu => by
    rw [List.getElem?_map, hu] at hx
    cases hx
    exact .f _ _ (.v _))
   simpa using h2
  ·exact .f _ _ (.v _)
 ·exact .f _ _ (.v _)
theorem RepV.ofValAV {v y : Value} (h : RepV σ F w (Z4w v) y) : y = v := by
 unfold Z4w at h
 split at h
 ·rename_i vs
  split at h
  ·have key : ∀ us : List Value, us.length = vs.toList.length → (∀ (j : Nat) (u u' : Value), vs.toList[j]? = some u → us[j]? = some u' → u' = u) → us = vs.toList := fun us hl hj => by
    apply List.ext_getElem hl
    intro j h1 h2
    exact hj j _ _ (List.getElem?_eq_getElem h2) (List.getElem?_eq_getElem h1)
   cases h with
   | agg _ us hl h1 h2 =>
    rw [key us (by simpa using hl.symm) (fun j u u' hu hu' => RepV.val (h2 j (.v u) u' (by rw [List.getElem?_map, hu]; rfl) hu'))]
   | f _ _ h => cases h
  ·exact RepV.val h
 ·exact RepV.val h
theorem RepV.tup2' (x y : Value) : RepV σ F w (.tup [Z4w x, .v y]) (.tuple #[x, y]) := by
 refine .tup _ [x, y] rfl (fun j a b ha hb => ?_)
 match j with
 | 0 => simp at ha hb; subst ha hb; exact RepV.vAV _
 | 1 => simp at ha hb; subst ha hb; exact .f _ _ (.v _)
 | j + 2 => simp at ha
theorem Ze4 {t kt et : Nat} {y z : Operand} {ok : Bool} (ho : o.op = .lookup t y z ok) (hm : P.underlying t = some (.map kt et)) (hkt : P.underlying kt = some .string) {i : TI} (hi : TIOk P et i)
  {id : Nat} {k : List Nat} (hy : s.ev y = .nm id k) {b : ByteArray} (hz : s.ev z = .v (.string b)) {es : List (ByteArray × Value)} (hq : s.heap[id]? = some (.mapo es)) (hd : dOK X.n o.dst)
  (hK : K (s.put o.dst (lkAV ok (Z10 b es) i.zero))) : opWPG P X o K s := by
 refine opWPG.val (fun σ F a w hr => ?_) hd hK
 obtain ⟨g, arr, clock, h1, h2, h3, hmi⟩ := Zjg hr hy hq
 obtain ⟨⟨es0, h4, hp0⟩, hup, _, _⟩ := hmi
 rw [← Z8p hp0 hup.nodup]
 have hz' : a.eval z = .string b := RepV.val (hz ▸ hr.ev z)
 have hck := MapKept.run_checkKey (P := P) (w := w) (k := .string b) hkt trivial arr.isEmpty 9999
 have hzr := fun w => (hi.zero_run : (zeroValue et).run P w = _)
 rcases Z47 b arr.toList es0 0 h4 with ⟨h5, h6, _⟩ | ⟨j, e, h5, h6, _⟩
 ·have hf := MapKept.run_findKey (P := P) (w := w) hkt h5
  cases ok
  ·refine ⟨i.zero, ?_, by rw [h6]; exact RepV.vAV _⟩
   simp [execOp, ho, h2, hz', Instr.lookup, run_underlying hm, MapKept.run_getObj_map h3, hck, hf, hzr, Sem.run_bind, Result.andThen]
  ·refine ⟨.tuple #[i.zero, .bool false], ?_, by rw [h6]; exact RepV.tup2' _ _⟩
   simp [execOp, ho, h2, hz', Instr.lookup, run_underlying hm, MapKept.run_getObj_map h3, hck, hf, hzr, Sem.run_bind, Result.andThen]
 ·have hf := MapKept.run_findKey (P := P) (w := w) hkt h5
  cases ok
  ·refine ⟨e.val, ?_, by rw [h6]; exact RepV.vAV _⟩
   simp [execOp, ho, h2, hz', Instr.lookup, run_underlying hm, MapKept.run_getObj_map h3, hck, hf, hzr, Sem.run_bind, Result.andThen]
  ·refine ⟨.tuple #[e.val, .bool true], ?_, by rw [h6]; exact RepV.tup2' _ _⟩
   simp [execOp, ho, h2, hz', Instr.lookup, run_underlying hm, MapKept.run_getObj_map h3, hck, hf, hzr, Sem.run_bind, Result.andThen]
theorem RepF.mpv {es : List (ByteArray × Value)} (h : RepF F w (.mp es) v) : (es = [] ∧ v = .map none) ∨ ∃ g arr clock, v = .map (some g) ∧ w.heap[g]? = some (.map arr clock) ∧ MapIs arr clock es := by
 cases h with
 | mp0 => exact .inl ⟨rfl, rfl⟩
 | mp _ g arr clock hF hg hm => exact .inr ⟨g, arr, clock, rfl, hg, hm⟩
theorem Ze5 {t kt et : Nat} {y z : Operand} {ok : Bool} (ho : o.op = .lookup t y z ok) (hm : P.underlying t = some (.map kt et)) (hkt : P.underlying kt = some .string) {i : TI} (hi : TIOk P et i)
  {es : List (ByteArray × Value)} (hy : s.ev y = .mp es) {b : ByteArray} (hz : s.ev z = .v (.string b)) (hd : dOK X.n o.dst)
  (hK : K (s.put o.dst (lkAV ok (Z10 b es) i.zero))) : opWPG P X o K s := by
 refine opWPG.val (fun σ F a w hr => ?_) hd hK
 have hz' : a.eval z = .string b := RepV.val (hz ▸ hr.ev z)
 have hzr := fun w => (hi.zero_run : (zeroValue et).run P w = _)
 have hyv : RepF F w (.mp es) (a.eval y) := (hy ▸ hr.ev y).toF rfl
 rcases RepF.mpv hyv with ⟨rfl, h2⟩ | ⟨g, arr, clock, h2, h3, hmi⟩
 ·have hck := MapKept.run_checkKey (P := P) (w := w) (k := .string b) hkt trivial true 9999
  have hf0 : (Instr.findKey kt (.string b) []).run P w = .ok none w := by
   have := MapKept.run_findKey (P := P) (w := w) (k := .string b) (l := []) (a := none) hkt (by rfl)
   exact this
  cases ok
  ·refine ⟨i.zero, ?_, RepV.vAV _⟩
   simp [execOp, ho, h2, hz', hf0, Instr.lookup, run_underlying hm, hck, hzr, Sem.run_bind, Result.andThen]
  ·refine ⟨.tuple #[i.zero, .bool false], ?_, RepV.tup2' _ _⟩
   simp [execOp, ho, h2, hz', hf0, Instr.lookup, run_underlying hm, hck, hzr, Sem.run_bind, Result.andThen]
 ·obtain ⟨⟨es0, h4, hp0⟩, hup, _, _⟩ := hmi
  rw [← Z8p hp0 hup.nodup]
  have hck := MapKept.run_checkKey (P := P) (w := w) (k := .string b) hkt trivial arr.isEmpty 9999
  rcases Z47 b arr.toList es0 0 h4 with ⟨h5, h6, _⟩ | ⟨j, e, h5, h6, _⟩
  ·have hf := MapKept.run_findKey (P := P) (w := w) hkt h5
   cases ok
   ·refine ⟨i.zero, ?_, by rw [h6]; exact RepV.vAV _⟩
    simp [execOp, ho, h2, hz', Instr.lookup, run_underlying hm, MapKept.run_getObj_map h3, hck, hf, hzr, Sem.run_bind, Result.andThen]
   ·refine ⟨.tuple #[i.zero, .bool false], ?_, by rw [h6]; exact RepV.tup2' _ _⟩
    simp [execOp, ho, h2, hz', Instr.lookup, run_underlying hm, MapKept.run_getObj_map h3, hck, hf, hzr, Sem.run_bind, Result.andThen]
  ·have hf := MapKept.run_findKey (P := P) (w := w) hkt h5
   cases ok
   ·refine ⟨e.val, ?_, by rw [h6]; exact RepV.vAV _⟩
    simp [execOp, ho, h2, hz', Instr.lookup, run_underlying hm, MapKept.run_getObj_map h3, hck, hf, hzr, Sem.run_bind, Result.andThen]
   ·refine ⟨.tuple #[e.val, .bool true], ?_, by rw [h6]; exact RepV.tup2' _ _⟩
    simp [execOp, ho, h2, hz', Instr.lookup, run_underlying hm, MapKept.run_getObj_map h3, hck, hf, hzr, Sem.run_bind, Result.andThen]
theorem Zfo {t : Nat} {y : Operand} {args ts : Array _} (ho : o.op = .call { callee := .builtin .cap, args := args, argTypes := ts }) (ha : args.toList = [y]) (ht : ts.toList = [t]) {e : Nat} (hu : P.underlying t = some (.slice e)) (hy : s.ev y = .v (.slice none 0 0)) (hd : dOK X.n o.dst)
  (hK : K (s.put o.dst (.v (.int .i64 0)))) : opWPG P X o K s := by
 have ha' : args = #[y] := by rw [← Array.toArray_toList (xs := args), ha]
 have ht' : ts = #[t] := by rw [← Array.toArray_toList (xs := ts), ht]
 subst ha' ht'
 refine opWPG.val (fun σ F a w hr => ⟨.int .i64 0, ?_, .f _ _ (.v _)⟩) hd hK
 have he : a.eval y = .slice none 0 0 := RepV.val (hy ▸ hr.ev y)
 simp [execOp, ho, resolve, invoke, builtin, Builtin.cap_, run_underlying hu, he, goInt]
theorem Zcg (hT : Zg P T) {t e : Nat} {y : Operand} {lo hi : Option Operand} (ho : o.op = .slice t y lo hi none) (hy : s.ev y = .v (.slice none 0 0)) {m p : Nat} {z : Value} (ht : T t = some ⟨.slice e, m, p, z⟩)
  {ti : TI} (hti : T e = some ti) {l h : Nat} (hb : bnds (lo.map s.ev) (hi.map s.ev) 0 = some (c, l, h)) (hc : c) (hd : dOK X.n o.dst)
  (hK : K (s.put o.dst (.v (.slice none 0 0)))) : opWPG P X o K s := by
 refine opWPG.val (fun σ F a w hr => ⟨.slice none 0 0, ?_, .f _ _ (.v _)⟩) hd hK
 have he : a.eval y = .slice none 0 0 := RepV.val (hy ▸ hr.ev y)
 obtain ⟨h1, h2, hrun⟩ := Z1i (P := P) hr hb hc true 0 (Nat.le_refl _)
 obtain rfl : h = 0 := by omega
 obtain rfl : l = 0 := by omega
 simp [execOp, ho, he, Z3j hT ht hti none 0 0 0 0 (hrun w)]
theorem Z6r {t t' e ty : Nat} (hu : P.underlying t = some (.slice e)) {k0 : IntKind} (hd : P.underlying t' = some (.int k0)) {i : TI} (hz : TIOk P e i) (hb : 0 < i.bytes) (hsz : 0 < i.size) {n : Int} {k : IntKind} (h0 : 0 < n) (hfit : n * i.bytes ≤ 140737488355328) :
  (Builtin.append_ #[t, t'] ty #[.slice none 0 0, .int k n]).run P w = .ok (.slice (some ⟨w.heap.size, 0, none⟩) n.toNat (grownCap w n.toNat 0 e))
   (w.drew.alloc (.cells (Builtin.zeroCells i.zero.cells n.toNat ++ Builtin.zeroCells i.zero.cells (grownCap w n.toNat 0 e - n.toNat)) e)) := by
 obtain ⟨q, hq, h1, h2, h3⟩ := hz.bytes_run (w := w)
 obtain ⟨q', hq', h1', h2', h3'⟩ := hz.bytes_run (w := w.drew)
 have hn1 : n ≤ 140737488355328 := by
  have : n * 1 ≤ n * (i.bytes : Int) := Int.mul_le_mul_of_nonneg_left (by omega) (by omega)
  omega
 have hwrap : IntKind.i64.wrap n = n := IntWalk.i64_in n (by omega)
 have hn : ¬ (n.toNat ≤ 0) := by omega
 have hfitN : (0 + n.toNat) * i.bytes ≤ 140737488355328 := by
  have : ((n.toNat * i.bytes : Nat) : Int) = n * i.bytes := by rw [Int.natCast_mul, Int.toNat_of_nonneg (by omega)]
  rw [Nat.zero_add]; omega
 have h48 : ¬ (281474976710656 < Builtin.nextslicecap n.toNat 0 * i.bytes) := by
  have := growslice_fits (need := 0 + n.toNat) (old := 0) (bytes := i.bytes) (by omega) hfitN
  rw [Nat.zero_add] at this
  omega
 have hbl : ¬ (281474976710656 < n * (i.bytes : Int)) := by omega
 have hb' : ¬ i.bytes = 0 := by omega
 have hmax : ¬ ((n.toNat : Int) > IntKind.i64.max) := by
  have : IntKind.i64.max = 9223372036854775807 := rfl
  omega
 have hns : ¬ (n.toNat * i.size = 0) := by
  intro h
  rcases Nat.mul_eq_zero.1 h with h | h <;> omega
 have hmark : ∀ b : Nat, (askRoom b).run P w.drew = .ok () w.drew := fun b => by unfold askRoom; split <;> simp [mark, Sem.run]
 have hfc : (Builtin.firstCells i.size 0 (.slice none 0 0)).run P w.drew = .ok #[] w.drew := by simp [Builtin.firstCells, Sem.run]
 simp [Builtin.append_, run_underlying hu, run_underlying hd, hz.size_run, asInt, asIntOf, hwrap, show ¬ n < 0 by omega, show ¬ n ≤ 0 by omega, show ¬ (9223372036854775807 < max n 0) by omega, hq, h1, hbl, hn, hmax, hb', h48, Question.forced, hmark, hfc, hz.zero_run, hns, newRow, newObj, Sem.run, grownCap, hq', h1', Result.andThen]
 rfl
theorem Z8e {t t' e : Nat} {y z : Operand} (ho : o.op = .call { callee := .builtin .append, args := #[y, z], argTypes := #[t, t'] }) (hT : Zg P T) {m p : Nat} {zv : Value} (ht : T t = some ⟨.slice e, m, p, zv⟩) {ti : TI} (hti : T e = some ti)
  {k0 : IntKind} {m' p' : Nat} {z' : Value} (ht' : T t' = some ⟨.int k0, m', p', z'⟩) (hy : s.ev y = .v (.slice none 0 0)) {k : IntKind} {n : Int} (hz : s.ev z = .v (.int k n)) (hsz : 0 < ti.size) (hby : 0 < ti.bytes) (h0 : 0 < n) (hfit : n * ti.bytes ≤ 140737488355328) (hd : dOK X.n o.dst)
  (hK : K (St.put { s with heap := s.heap ++ [.row e ti.size (List.replicate n.toNat (ti.zero.cells.toList.map .v))] } o.dst (.own s.heap.length ti.size 0 n.toNat))) : opWPG P X o K s := by
 refine opWPG.mem (fun σ F a w hr => ?_) hd
 have hzt := hT _ _ hti
 have hv : a.eval y = .slice none 0 0 := RepV.val (hy ▸ hr.ev y)
 have hv2 : a.eval z = .int k n := RepV.val (hz ▸ hr.ev z)
 have hr1 := Z6r (P := P) (w := w) (t := t) (t' := t') (ty := o.type) (hT _ _ ht).kind (hT _ _ ht').kind hzt hby hsz h0 hfit (k := k)
 have hn1 : n ≤ 140737488355328 := by
  have : n * 1 ≤ n * (ti.bytes : Int) := Int.mul_le_mul_of_nonneg_left (by omega) (by omega)
  omega
 have hge := grownCap_ge w n.toNat 0 e
 have hcm := grownCap_le_maxLen w n.toNat 0 e (by simp only [maxLen]; omega)
 let cur : Array Value := Builtin.zeroCells ti.zero.cells n.toNat ++ Builtin.zeroCells ti.zero.cells (grownCap w n.toNat 0 e - n.toNat)
 have hcs : cur.size = (0 + grownCap w n.toNat 0 e) * ti.size := by
  simp only [cur, Array.size_append, size_zeroCells, hzt.cells, ← Nat.add_mul]
  congr 1; omega
 have hrep : ∀ (w' : World) (i : Nat) (cs : List AV) (j : Nat) (x : AV), (List.replicate n.toNat (ti.zero.cells.toList.map AV.v))[i]? = some cs → cs[j]? = some x → ∃ u, cur[(0 + i) * ti.size + j]? = some u ∧ u.oneCell' = true ∧ RepF F w' x u := fun w' i cs j x hi hj => by
  have hi' : i < n.toNat := by have := (List.getElem?_eq_some_iff.1 hi).1; simpa using this
  rw [List.getElem?_replicate, if_pos hi'] at hi
  injection hi with hi
  subst hi
  rw [List.getElem?_map, Option.map_eq_some_iff] at hj
  obtain ⟨u, hu', rfl⟩ := hj
  have hj' : j < ti.size := by have := (List.getElem?_eq_some_iff.1 hu').1; rw [Array.length_toList, hzt.cells] at this; exact this
  have hlt : i * ti.size + j < n.toNat * ti.size := by
   have : (i + 1) * ti.size ≤ n.toNat * ti.size := Nat.mul_le_mul_right _ hi'
   rw [Nat.succ_mul] at this
   omega
  have hm : (i * ti.size + j) % ti.zero.cells.size = j := by rw [hzt.cells, Nat.mul_comm, Nat.mul_add_mod, Nat.mod_eq_of_lt hj']
  refine ⟨u, ?_, List.all_eq_true.1 hzt.one u (List.mem_of_getElem? hu'), .v u⟩
  rw [Nat.zero_add]
  have hj2 : j < ti.zero.cells.size := by rw [hzt.cells]; exact hj'
  have hget : ti.zero.cells[j]! = u := by
   rw [Array.getElem?_toList] at hu'
   rw [getElem!_pos ti.zero.cells j hj2]
   rw [Array.getElem?_eq_getElem hj2] at hu'
   injection hu'
  have hsz2 : (Builtin.zeroCells ti.zero.cells n.toNat).size = n.toNat * ti.size := by rw [size_zeroCells, hzt.cells]
  simp only [cur]
  rw [Array.getElem?_append_left (by rw [hsz2]; exact hlt)]
  simp only [Builtin.zeroCells, Array.getElem?_map, Array.getElem?_range]
  rw [if_pos (by rw [hzt.cells]; exact hlt)]
  simp only [Option.map_some, hm, hget]
 let w1 := w.drew.alloc (.cells cur e)
 have hE : Ext w w1 := ⟨rfl, rfl, rfl, by simp [w1], fun b hb _ => by
  have : (w.drew.alloc (.cells cur e)).heap[b]? = w.drew.heap[b]? := Below.heap_alloc w.drew _ b hb
  exact this⟩
 have hrun : (execOp a.eval o).run P w = .ok (.value (.slice (some ⟨w.heap.size, 0, none⟩) n.toNat (grownCap w n.toNat 0 e))) w1 := by
  simp [execOp, ho, resolve, invoke, builtin, hv, hv2, hr1, w1, cur]
 refine ⟨_, w1, upd σ s.heap.length (some (.at_ w.heap.size 0 (grownCap w n.toNat 0 e) n.toNat)), F, _, _, hrun, ⟨hE.size, fun b hb => hE.block b hb (fun h => h)⟩, (hr.ext hE).new ?_ (fun g hk => ?_), ?_, hK⟩
 ·exact .inr ⟨w.heap.size, 0, grownCap w n.toNat 0 e, cur, by rw [Z2]; simp, by simpa using hge, by simpa using hcm, heap_alloc_new w.drew _, hcs, fun cs hcs' => by rw [(List.mem_replicate.1 hcs').2]; simp [hzt.cells], hrep w1⟩
 ·have e1 : g = w.heap.size := hk
  subst e1
  refine ⟨by simp [w1], fun hF => ?_, hr.keep.size, fun id h => ?_⟩
  ·have := hr.heap.flt _ hF; omega
  ·have := (hr.heap.lt _ _ h).1; omega
 ·have := RepV.own (σ := upd σ s.heap.length (some (.at_ w.heap.size 0 (grownCap w n.toNat 0 e) n.toNat))) (F := F) (w := w1) s.heap.length ti.size 0 n.toNat w.heap.size 0 (grownCap w n.toNat 0 e) n.toNat (Z2 _ _ _) (by simp) hge
  simpa using this
theorem Zb3 (l : List AObj) : l.map (AObj.sub _root_.id) = l := by
 have : AObj.sub _root_.id = (_root_.id : AObj → AObj) := by funext p; exact AObj.sub_id p
 rw [this, List.map_id]
theorem Zat {t kt et : Nat} {y z q : Operand} (ho : o.op = .mapUpdate t y z q) (hm : P.underlying t = some (.map kt et)) (hkt : P.underlying kt = some .string)
  {id : Nat} {k : List Nat} (hy : s.ev y = .nm id k) {b : ByteArray} (hz : s.ev z = .v (.string b)) {u : Value} (hu : AV.le (s.ev q) (Z4w u)) {es : List (ByteArray × Value)} (hq : s.heap[id]? = some (.mapo es)) (hd : dOK X.n o.dst)
  (hK : K (St.put { s with heap := s.heap.set id (.mapo (Z1w b u es)) } o.dst .any)) : opWP P X o K s := by
 refine opWP.unit (fun σ F a w hr => ?_) hd
 obtain ⟨g, arr, clock, h1, h2, h3, hmi⟩ := Zjg hr hy hq
 obtain ⟨es0, h4, hp0⟩ := hmi.1
 have hz' : a.eval z = .string b := RepV.val (hz ▸ hr.ev z)
 have hu' : a.eval q = u := RepV.ofValAV (RepV.le hu (hr.ev q))
 have hck := MapKept.run_checkKey (P := P) (w := w) (k := .string b) hkt trivial false 9999
 have hid : id < s.heap.length := (List.getElem?_eq_some_iff.1 hq).1
 have hupd : upd σ id (σ id) = σ := by
  funext i
  by_cases e : i = id
  ·subst e; exact Z2 _ _ _
  ·exact Ze _ _ e
 have fin : ∀ (arr' : Array MapEntry) (clock' : Nat), MapIs arr' clock' (Z1w b u es) → (execOp a.eval o).run P w = .ok .skip { w with heap := w.heap.setIfInBounds g (.map arr' clock') } →
   ∃ w' σ' F' s', (execOp a.eval o).run P w = .ok .skip w' ∧ RepAt X σ' F' s' a w' ∧ K (s'.put o.dst .any) := by
  intro arr' clock' h5 h6
  obtain ⟨h7, h8⟩ := MapKept.heap_set (o' := .map arr' clock') h3
  have hown : hasB σ id g := ⟨_, h1, rfl⟩
  have hFF : ∀ b, F b → (w.heap.setIfInBounds g (.map arr' clock'))[b]? = w.heap[b]? := fun b hb => h8 b (fun e => (hr.heap.lt _ _ hown).2 (e ▸ hb))
  have hch := hr.change (w' := { w with heap := w.heap.setIfInBounds g (.map arr' clock') }) (F' := F) hid (k := σ id) (f := _root_.id) (ob := .mapo (Z1w b u es)) rfl rfl rfl (by simp) (fun g' _ hn => h8 g' (fun e => hn (e ▸ hown))) (fun _ h => h) (fun _ h => .inl h)
   (fun q g' hq' hg' => by
    have hb : hasB σ id g' := ⟨q, hq', hg'⟩
    exact ⟨by simpa using (hr.heap.lt _ _ hb).1, (hr.heap.lt _ _ hb).2, .inl hb⟩)
   (fun i sz off len y h => by rw [hupd]; exact h.mono (fun _ h => h) hFF)
   (fun i q sz j y h => by rw [hupd]; exact h.mono (fun _ h => h) hFF)
   (fun i q y h => by rw [hupd]; exact h.mono (fun _ h => h) hFF)
   (fun _ => .inl rfl) (by rw [hupd]; exact ⟨g, arr', clock', h1, h7, h5⟩)
  rw [Z5h, Zb3] at hch
  exact ⟨_, _, F, _, h6, hch, hK⟩
 rcases Z47 b arr.toList es0 0 h4 with ⟨h5, h6, h7⟩ | ⟨j, e, h5, h6, h7, h8, h9⟩
 ·have hf := MapKept.run_findKey (P := P) (w := w) hkt h5
  refine fin (arr.push { key := .string b, val := u, born := clock }) (clock + 1) ?_ ?_
  ·exact hmi.push h4 hp0 (h7 u)
  ·simp [execOp, ho, h2, hz', hu', Instr.mapUpdate, run_underlying hm, MapKept.run_getObj_map h3, hck, hf, MapKept.run_setObj_map _ h3, Sem.run_bind, Result.andThen]
 ·rw [Nat.zero_add] at h5
  have hf := MapKept.run_findKey (P := P) (w := w) hkt h5
  have hget : (Option.map (fun x : MapEntry => x.key) arr[j]?).getD (.string b) = .string b := by
   rw [← Array.getElem?_toList, h7]; simp [h8]
  have hstay : (Instr.keyThatStays (.string b) (.string b)).run P w = .ok (.string b) w := MapKept.run_keyThatStays (d := .string) trivial
  refine fin (arr.modify j fun e => { e with key := .string b, val := u }) clock ?_ ?_
  ·exact hmi.modify hp0 (h9 u)
  ·simp [execOp, ho, h2, hz', hu', Instr.mapUpdate, run_underlying hm, MapKept.run_getObj_map h3, hck, hf, hget, hstay, MapKept.run_setObj_map _ h3, Sem.run_bind, Result.andThen]
end
end Go.Proofs.YtahlodpolggeiaaGreatDoor.Eng
set_option linter.unusedVariables false
set_option linter.unusedSimpArgs false
namespace Go.Proofs.YtahlodpolggeiaaGreatDoor.Eng
open Go Go.RowKit
section
variable {P : Program} {T : Tab} {X : Ctx} {σ σ' : Nat → Option Blk} {F F' : Nat → Prop} {s s' : St} {a : Act} {w w' : World} {o : Oper} {c : Prop} {x : AV} {v : Value} {K : St → Prop}
theorem Z7s {id : Nat} {k : Option Blk} : ∀ i sz off len y, RepV σ F w (.own i sz off len) y → RepV (upd σ id k) F' w' (Zf id (.own i sz off len)) y := by
 intro i sz off len y h
 simp only [Zf]
 by_cases e : i = id
 ·rw [if_pos e]; exact .f _ _ (.any _)
 ·rw [if_neg e]
  have hs := Ze σ k e
  cases h with
  | f _ _ h => cases h
  | own0 _ _ h => exact .own0 _ _ (hs.trans h)
  | own _ _ _ _ g b c n h hn hc => exact .own _ _ _ _ g b c n (hs.trans h) hn hc
  | ownz _ _ _ g b c n a h hn hc => exact .ownz _ _ _ g b c n a (hs.trans h) hn hc
theorem Z7r {id : Nat} {k : Option Blk} : ∀ i q sz j y, RepV σ F w (.ptr i q sz j) y → RepV (upd σ id k) F' w' (Zf id (.ptr i q sz j)) y := by
 intro i q sz j y h
 simp only [Zf]
 by_cases e : i = id
 ·rw [if_pos e]; exact .f _ _ (.any _)
 ·rw [if_neg e]
  have hs := Ze σ k e
  cases h with
  | f _ _ h => cases h
  | ptr _ _ _ _ g b c n h => exact .ptr _ _ _ _ g b c n (hs.trans h)
def ptrOf (k : Blk) (sz i c : Nat) : Value := match k with
 | .at_ g b _ _ => .pointer (some ⟨g, (b + i) * sz + c, none⟩)
 | _ => undef
theorem Zi6 (k : Blk) (sz : Nat) : Zjn k sz (ptrOf k sz) := fun g b c n h i j => by subst h; rfl
theorem Zgg {id sz n : Nat} {q : Blk} (h : RepV σ F w (.own id sz 0 n) v) (hs : σ id = some q) : HdrRep q F w sz n v := by
 cases h with
 | f _ _ h => cases h
 | own0 _ _ h => rw [hs] at h; exact .own0 _ _ h
 | own _ _ _ _ g b c n h hn hc => rw [hs] at h; exact .own _ _ _ _ g b c n h hn hc
 | ownz _ _ _ g b c n a h hn hc => rw [hs] at h; exact .ownz _ _ _ g b c n a h hn hc
theorem Zcb {id e sz : Nat} {es : List (List AV)} (h : RepO σ F w id (.row e sz es)) : ∃ q, σ id = some q ∧ RowRep q F w e sz es := by
 rcases h with ⟨h1, h2⟩ | ⟨g, b, c, cur, h1, h2, h3, h4, h5, h6, h7⟩
 ·exact ⟨.nil, h1, .inl ⟨rfl, h2⟩⟩
 ·exact ⟨_, h1, .inr ⟨g, b, c, cur, rfl, h2, h3, h4, h5, h6, h7⟩⟩
def Z40 (q : Blk) (v : Value) : List Nat → Value
 | [0] => v
 | [1, _] => .slice none 0 0
 | [2, k] => ptrOf q 1 k 0
 | _ => undef
theorem Zht {q : Blk} {e ei sz n : Nat} (hr : RowRep q F w e 1 (List.replicate n [.v (.slice none 0 0)])) (hh : HdrRep q F w 1 n v) : TreeRep F w e ei sz none (List.replicate n []) q (fun _ => .nil) (Z40 q v) := by
 refine ⟨?_, by simpa [Z40] using hh, fun g b c n' hq k => ?_, fun k row hk => ?_, fun k row hk _ => ?_, fun j hj => (by cases hj), fun k g b c n' h => (by cases h), fun _ _ => rfl, fun k g _ h => h, fun k k' g h => h.elim⟩
 ·have : (List.range (List.replicate n ([] : List (List AV))).length).map (fun k => [AV.v (Z40 q v [1, k])]) = List.replicate n [.v (.slice none 0 0)] := by
   rw [List.length_replicate]
   apply List.ext_getElem?
   intro i
   rw [List.getElem?_map, List.getElem?_replicate]
   by_cases hi : i < n
   ·rw [List.getElem?_range hi, if_pos hi]; rfl
   ·rw [List.getElem?_eq_none (by simp; omega), if_neg hi]; rfl
  rw [this]; exact hr
 ·show ptrOf q 1 k 0 = _
  rw [Zi6 q 1 g b c n' hq k 0, Nat.mul_one, Nat.add_zero]
 ·rw [List.getElem?_replicate] at hk
  split at hk
  ·cases hk; exact .inl ⟨rfl, rfl⟩
  ·cases hk
 ·rw [List.getElem?_replicate] at hk
  split at hk
  ·cases hk; exact .own0 0 sz rfl
  ·cases hk
theorem RepAt.newTree (hr : RepAt X σ F s a w) (e ei sz : Nat) {d : Nat} (hd : envGet s.env d = .v (.slice none 0 0)) : ∃ σ', RepAt X σ' F ⟨(d, .nm s.heap.length [0]) :: s.env, s.heap ++ [.tree e ei sz none []]⟩ a w := by
 have hT : TreeRep F w e ei sz none [] .nil (fun _ => .nil) (Z40 .nil (.slice none 0 0)) := Zht (n := 0) (.inl ⟨rfl, rfl⟩) (.own0 0 1 rfl)
 have h := hr.new (k := .ext (Z96 .nil (fun _ => .nil)) (Z40 .nil (.slice none 0 0))) (ob := .tree e ei sz none []) ⟨.nil, _, _, Z2 _ _ _, hT⟩ (fun g hg => by rcases hg with hg | ⟨_, hg⟩ <;> exact hg.elim)
 refine ⟨_, ⟨h.defers, h.size, fun i => ?_, h.heap, h.keep, h.own, h.fnew, h.stab, h.hm⟩⟩
 simp only [envGet]
 by_cases hi : i = d
 ·rw [if_pos hi]
  subst hi
  have h2 := hr.env i
  rw [hd] at h2
  rw [RepV.val h2]
  exact .nm _ [0] _ (Z40 .nil (.slice none 0 0)) (Z2 _ _ _) rfl
 ·rw [if_neg hi]; exact h.env i
theorem Zci (hT : Zg P T) {t e : Nat} {y : Operand} (ho : o.op = .convert t t y) {m p : Nat} {z : Value} (ht : T t = some ⟨.slice e, m, p, z⟩) {m' p' : Nat} {z' : Value} (he : T e = some ⟨.int .u8, m', p', z'⟩)
  {id e0 : Nat} {es : List (List AV)} (hy : s.ev y = .own id 1 0 es.length) (hq : s.heap[id]? = some (.row e0 1 es)) (hpos : 0 < es.length) (hd : dOK X.n o.dst)
  (hK : K (St.put ⟨Z12 (Zf id) s.env, (s.heap.map (AObj.sub (Zf id))).set id .dead⟩ o.dst (.ro 1 es))) : opWP P X o K s := by
 refine opWP.mem (fun σ F a w hr => ?_) hd
 have hid : id < s.heap.length := (List.getElem?_eq_some_iff.1 hq).1
 obtain ⟨q, h1, h2⟩ := Zcb (hr.heap.obj id _ hq)
 have h3 := Zgg (hy ▸ hr.ev y) h1
 obtain ⟨g, b, c, rfl⟩ := h2.pos hpos
 have hv := h3.at hpos
 obtain ⟨_, h4, h5, cur, h6, h7, h8, h9⟩ := h2.at
 have hu : P.underlying t = some (.slice e) := (hT _ _ ht).kind
 have hue : P.underlying e = some (.int .u8) := (hT _ _ he).kind
 have hsh : w.shape? g = some (e0, cur.size) := by simp [World.shape?, h6]
 have hlt := hr.heap.lt _ _ (.at h1)
 let w' : World := w.freeze ⟨g, cur.size, none⟩ 1
 have hg' : w'.heap[g]? = some (.cells cur e0 (cur.size, cur.size + 1)) := by
  simp only [w', World.freeze]
  rw [if_neg (by decide)]
  simp only [Array.getElem?_modify, if_true, h6, Option.map_some]
  rfl
 have hoth : ∀ g', g' ≠ g → w'.heap[g']? = w.heap[g']? := fun g' hn => by
  simp only [w', World.freeze]
  rw [if_neg (by decide)]
  simp only [Array.getElem?_modify]
  rw [if_neg (fun e => hn e.symm)]
 have hsize : w.heap.size ≤ w'.heap.size := by
  simp only [w', World.freeze]
  rw [if_neg (by decide)]
  simp
 have hrun : (execOp a.eval o).run P w = .ok (.value (a.eval y)) w' := by
  rw [hv]
  simp [execOp, ho, hv, convert, run_underlying hu, run_underlying hue, markStringish, hsh, w']
 let F' : Nat → Prop := fun b => F b ∨ hasB σ id b
 have hFb : ∀ b, F b → w'.heap[b]? = w.heap[b]? := fun b hb => hoth b (fun e => hlt.2 (e ▸ hb))
 have hro : RepF F' w' (.ro 1 es) (a.eval y) := by
  rw [hv]
  refine .ro 1 es.length c es ⟨g, b * 1, none⟩ (fun i j => (cur[(b + i) * 1 + j]?).getD undef) rfl h4 (.inr (.at h1)) h8 (fun i cs j x hi hj => ?_) (fun i cs j x hi hj => ?_)
  ·obtain ⟨u, k1, k2, k3⟩ := h9 i cs j x hi hj
   simp only [k1, Option.getD_some]
   refine ⟨?_, k2⟩
   rw [Zl, ← Nat.add_assoc, ← Nat.add_mul]
   simp [World.cell?, hg', k1]
   simpa using k1
  ·obtain ⟨u, k1, k2, k3⟩ := h9 i cs j x hi hj
   simp only [k1, Option.getD_some]
   exact k3.mono (fun _ h => .inl h) hFb
 exact ⟨a.eval y, w', upd σ id none, F', _, .ro 1 es, hrun, hr.change (ob := .dead) hid rfl rfl rfl hsize (fun g' _ hn => hoth g' (fun e => hn (e ▸ .at h1))) (fun _ h => .inl h) (fun _ h => h) (fun q g h => by cases h) Z7s Z7r Z37 (fun _ => .inr rfl) (Z2 _ _ _), .f _ _ hro, hK⟩
end
end Go.Proofs.YtahlodpolggeiaaGreatDoor.Eng
set_option linter.unusedVariables false
set_option linter.unusedSimpArgs false
namespace Go.Proofs.YtahlodpolggeiaaGreatDoor.Eng
open Go Go.RowKit
def Z2o (v : Value) (g : Nat) : Array Value := match decide (g = 1000000) with | true => #[v] | false => #[v, .func (.func g) #[] #[]]
theorem Zaj (v : Value) : Z2o v 1000000 = #[v] := rfl
theorem Zai (v : Value) {g : Nat} (h : g ≠ 1000000) : Z2o v g = #[v, .func (.func g) #[] #[]] := by unfold Z2o; rw [decide_eq_false h]
structure SortPair (P : Program) (f g k : Nat) (xs ys : List (List Value)) : Prop where
 len : ys.length = xs.length
 size : ∀ c ∈ ys, c.length = k
 one : ∀ c ∈ ys, ∀ v ∈ c, v.oneCell' = true
 atNone : xs = [] → ∀ (p : Option Addr) (cap : Nat) (w : World), Calls P f (Z2o (.slice p 0 cap) g) w fun e w' => e = .returned (.tuple #[]) ∧ w' = w
 atSome : xs ≠ [] → ∀ (blk off cap : Nat) (w : World), Sort.Holds id w blk off xs.flatten.toArray → blk < w.heap.size → Calls P f (Z2o (.slice (some ⟨blk, off, none⟩) xs.length cap) g) w fun e w' => e = .returned (.tuple #[]) ∧ ∃ n os, w' = Sort.grow (Sort.putRow id (Sort.ahead w n) blk off ys.flatten.toArray) os
theorem Z27 {α : Type} {k : Nat} : ∀ {xs : List (List α)}, (∀ c ∈ xs, c.length = k) → xs.flatten.length = xs.length * k
 | [], _ => by simp
 | c :: xs, h => by
  have h1 := h c (List.mem_cons_self ..)
  have h2 := Z27 (xs := xs) (fun c hc => h c (List.mem_cons_of_mem _ hc))
  simp only [List.flatten_cons, List.length_append, List.length_cons, h1, h2, Nat.succ_mul]; omega
theorem Z28 {α : Type} {k : Nat} : ∀ {xs : List (List α)} {i j : Nat} {c : List α}, (∀ c ∈ xs, c.length = k) → xs[i]? = some c → j < k → xs.flatten[i * k + j]? = c[j]?
 | [], i, j, c, _, hi, _ => by simp at hi
 | d :: xs, 0, j, c, h, hi, hj => by
  simp at hi
  subst hi
  rw [Nat.zero_mul, Nat.zero_add, List.flatten_cons, List.getElem?_append_left (by rw [h d (List.mem_cons_self ..)]; exact hj)]
 | d :: xs, i + 1, j, c, h, hi, hj => by
  have hd := h d (List.mem_cons_self ..)
  rw [List.flatten_cons, List.getElem?_append_right (by rw [hd, Nat.succ_mul]; omega), hd]
  have e : (i + 1) * k + j - k = i * k + j := by rw [Nat.succ_mul]; omega
  rw [e]
  exact Z28 (fun c hc => h c (List.mem_cons_of_mem _ hc)) (by simpa using hi) hj
def rowV (xs : List (List Value)) : List (List AV) := xs.map fun c => c.map .v
section
variable {P : Program} {T : Tab} {X : Ctx} {σ σ' : Nat → Option Blk} {F F' : Nat → Prop} {s s' : St} {a : Act} {w w' : World} {o : Oper} {c : Prop} {x : AV} {v : Value} {K : St → Prop}
theorem Z6x {xs : List (List Value)} {i : Nat} {cs : List AV} (h : (rowV xs)[i]? = some cs) : ∃ c, xs[i]? = some c ∧ cs = c.map .v := by
 unfold rowV at h
 rw [List.getElem?_map, Option.map_eq_some_iff] at h
 obtain ⟨c, h1, rfl⟩ := h
 exact ⟨c, h1, rfl⟩
theorem RepAt.turnObj (hr : RepAt X σ F s a w) {i : Nat} (hid : i < s.heap.length) {g b c n : Nat} (hs : σ i = some (.at_ g b c n)) {ob : AObj} (h1 : w'.os = w.os) (h2 : w'.tape = w.tape) (h3 : w'.output = w.output) (h4 : w.heap.size ≤ w'.heap.size) (h5 : ∀ g', g' < w.heap.size → g' ≠ g → w'.heap[g']? = w.heap[g']?) (hob : RepO σ F w' i ob) : RepAt X σ F ⟨s.env, s.heap.set i ob⟩ a w' := by
 have hgF : ¬ F g := (hr.heap.lt _ _ (.at hs)).2
 have hF : ∀ b, F b → w'.heap[b]? = w.heap[b]? := fun b hb => h5 b (hr.heap.flt b hb) (fun e => hgF (e ▸ hb))
 have hup : upd σ i (σ i) = σ := by
  funext q
  unfold upd
  split
  ·rename_i e; rw [e]
  ·rfl
 have h := hr.change (w' := w') (F' := F) (f := _root_.id) (k := σ i) (ob := ob) hid h1 h2 h3 h4 (fun g1 hg1 hne => h5 g1 hg1 (fun e => hne (.at (e ▸ hs)))) (fun _ h => h) (fun _ h => .inl h)
  (fun q1 g1 h hg => ⟨Nat.lt_of_lt_of_le (hr.heap.lt _ _ ⟨q1, h, hg⟩).1 h4, (hr.heap.lt _ _ ⟨q1, h, hg⟩).2, .inl ⟨q1, h, hg⟩⟩)
  (fun q sz off len y h => by rw [hup]; exact h.mono (fun _ h => h) hF) (fun q k sz j y h => by rw [hup]; exact h.mono (fun _ h => h) hF) (fun q k y h => by rw [hup]; exact h.mono (fun _ h => h) hF) (fun _ => .inl rfl) (by rw [hup]; exact hob)
 rw [hup, Z5h, Z8r] at h
 exact h
theorem op_sort {fop : Operand} {y : Operand} {zs : List Operand} {ar : Array Operand} {ts : Array Nat} (ho : o.op = .call { callee := .value fop, args := ar, argTypes := ts }) (har : ar.toList = y :: zs) {f g k : Nat} (hf : s.ev fop = .fn f []) (hE : Enters P f) {xs ys : List (List Value)} (hp : SortPair P f g k xs ys)
  (hk : ∀ c ∈ xs, c.length = k) {id e0 : Nat} (hy : s.ev y = .own id k 0 xs.length) (hz : (g = 1000000 ∧ zs = []) ∨ (g ≠ 1000000 ∧ ∃ z, zs = [z] ∧ s.ev z = .fn g [])) (hq : s.heap[id]? = some (.row e0 k (rowV xs))) (hd : dOK X.n o.dst) (hK : K (St.put ⟨s.env, s.heap.set id (.row e0 k (rowV ys))⟩ o.dst .any)) : opWP P X o K s := by
 rintro Qc next a w hn ⟨σ, F, hr⟩
 have hid : id < s.heap.length := (List.getElem?_eq_some_iff.1 hq).1
 obtain ⟨us, hfv, hul, _⟩ := RepV.fnv (hf ▸ hr.ev fop)
 obtain rfl : us = [] := List.eq_nil_of_length_eq_zero hul.symm
 have hva : ar.map a.eval ++ #[] = Z2o (a.eval y) g := by
  rcases hz with ⟨rfl, rfl⟩ | ⟨hg, z, rfl, hz⟩
  ·apply Array.ext'
   simp [har, Zaj]
  ·obtain ⟨vs, hzv, hvl, _⟩ := RepV.fnv (hz ▸ hr.ev z)
   obtain rfl : vs = [] := List.eq_nil_of_length_eq_zero hvl.symm
   have hzv' : a.eval z = .func (.func g) #[] #[] := hzv
   rw [Zai _ hg, ← hzv']
   apply Array.ext'
   simp [har]
 have hrun : (execOp a.eval o).run P w = .ok (.enter f (Z2o (a.eval y) g)) w := by
  simp [execOp, ho, resolve, hfv, Deferred.ofValue, invoke, hE (Z2o (a.eval y) g) w]
  simpa using hva ▸ hE (Z2o (a.eval y) g) w
 obtain ⟨q, h1, h2⟩ := Zcb (hr.heap.obj id _ hq)
 have h3 := Zgg (hy ▸ hr.ev y) h1
 unfold Oper.wp
 rw [hrun]
 show Calls P f (Z2o (a.eval y) g) w _
 have hrl : (rowV xs).length = xs.length := by simp [rowV]
 by_cases h0 : xs = []
 ·obtain ⟨A, cap, hv⟩ := h3.slice
  rw [hv]
  have hys : ys = [] := List.eq_nil_of_length_eq_zero (by rw [hp.len, h0]; rfl)
  rw [h0]
  refine (hp.atNone h0 A cap w).mono ?_
  rintro e w' ⟨rfl, rfl⟩
  have hsame : s.heap.set id (.row e0 k (rowV ys)) = s.heap := by
   rw [hys, ← h0]
   apply List.ext_getElem?
   intro j
   by_cases hj : id = j
   ·subst hj; rw [List.getElem?_set_self hid, hq]
   ·rw [List.getElem?_set_ne hj]
  rw [hsame] at hK
  exact hn _ _ _ hK ⟨σ, F, hr.put hd (.f _ _ (.any _))⟩
 ·have hpos : 0 < xs.length := List.length_pos_iff.2 h0
  obtain ⟨gb, b, c, rfl⟩ := h2.pos (by rw [hrl]; exact hpos)
  rw [hrl] at h1 h2 h3
  have hv := h3.at hpos
  rw [hv]
  obtain ⟨_, h4, h5, cur, h6, h7, h8, h9⟩ := h2.at
  rw [hrl] at h4
  have hlt := hr.heap.lt _ _ (.at h1)
  have hfl := Z27 hk
  have hkpos : ∀ t, t < xs.length * k → 0 < k := fun t ht => by
   rcases Nat.eq_zero_or_pos k with h | h
   ·rw [h, Nat.mul_zero] at ht; omega
   ·exact h
  have hcell : ∀ t, t < xs.length * k → ∃ u, cur[b * k + t]? = some u ∧ xs.flatten[t]? = some u := fun t ht => by
   obtain ⟨i, j, hi, hj, rfl⟩ := Zq ht
   have hi2 := List.getElem?_eq_getElem hi
   have hcl := hk _ (List.getElem_mem hi)
   have hj2 : j < (xs[i]).length := by rw [hcl]; exact hj
   obtain ⟨u, k1, k2, k3⟩ := h9 i (xs[i].map .v) j (.v xs[i][j]) (by unfold rowV; rw [List.getElem?_map, hi2]; rfl) (by rw [List.getElem?_map, List.getElem?_eq_getElem hj2]; rfl)
   have hu : u = xs[i][j] := by cases k3; rfl
   refine ⟨u, ?_, ?_⟩
   ·rw [← k1, Nat.add_mul]; congr 1; omega
   ·rw [Z28 hk hi2 hj, List.getElem?_eq_getElem hj2, hu]
  have hH : Sort.Holds _root_.id w gb (b * k) xs.flatten.toArray := fun t ht => by
   have ht' : t < xs.length * k := by simpa [hfl] using ht
   obtain ⟨u, k1, k2⟩ := hcell t ht'
   have k3 : xs.flatten.toArray[t]! = u := by
    rw [getElem!_pos _ t ht]
    have : xs.flatten.toArray[t]? = some u := by simpa using k2
    rw [Array.getElem?_eq_getElem ht] at this
    exact Option.some.inj this
   refine ⟨?_, ?_⟩
   ·rw [k3]
    simp only [World.cell?, h6]
    simpa using k1
   ·simp [World.frozen?, h6]
  refine (hp.atSome h0 gb (b * k) c w hH hlt.1).mono ?_
  rintro e w' ⟨rfl, n, os, rfl⟩
  have hyl : ys.flatten.length = xs.length * k := by rw [Z27 hp.size, hp.len]
  let Y := ys.flatten.toArray
  let cur' := Sort.putCells _root_.id (b * k) Y cur
  have hw1 : (Sort.putRow _root_.id (Sort.ahead w n) gb (b * k) Y).heap[gb]? = some (.cells cur' e0 (0, 0)) := by
   simp only [Sort.putRow, Sort.mapBlock, Array.getElem?_modify, if_true]
   rw [show (Sort.ahead w n).heap = w.heap from rfl, h6]
   rfl
  have hsz : (Sort.putRow _root_.id (Sort.ahead w n) gb (b * k) Y).heap.size = w.heap.size := by simp
  have hw : (Sort.grow (Sort.putRow _root_.id (Sort.ahead w n) gb (b * k) Y) os).heap[gb]? = some (.cells cur' e0 (0, 0)) := by
   rw [Sort.heap_grow_old _ _ (by rw [hsz]; exact hlt.1)]; exact hw1
  have hcs : cur'.size = cur.size := by simp [cur', Sort.putCells]
  have hget : ∀ t, t < xs.length * k → ∀ u, ys.flatten[t]? = some u → cur'[b * k + t]? = some u := fun t ht u hu => by
   obtain ⟨u0, k1, _⟩ := hcell t ht
   simp only [cur', Sort.putCells, Array.getElem?_mapIdx, k1, Option.map_some]
   rw [if_pos ⟨by omega, by simp only [Y, List.size_toArray, hyl]; omega⟩, show b * k + t - b * k = t by omega]
   have htl : t < Y.size := by simp only [Y, List.size_toArray, hyl]; exact ht
   have : Y[t]? = some u := by simpa [Y] using hu
   rw [getElem!_pos Y t htl]
   rw [Array.getElem?_eq_getElem htl] at this
   exact congrArg some (Option.some.inj this)
  refine hn _ _ _ hK ⟨σ, F, (hr.turnObj (w' := Sort.grow (Sort.putRow _root_.id (Sort.ahead w n) gb (b * k) Y) os) (ob := .row e0 k (rowV ys)) hid h1 rfl rfl rfl ?_ (fun g' hg' hne => ?_) ?_).put hd (.f _ _ (.any _))⟩
  ·show w.heap.size ≤ ((Sort.putRow _root_.id (Sort.ahead w n) gb (b * k) Y).heap ++ os).size
   rw [Array.size_append, hsz]; omega
  ·rw [Sort.heap_grow_old _ _ (by rw [hsz]; exact hg')]
   simp only [Sort.putRow, Sort.mapBlock, Array.getElem?_modify]
   rw [if_neg (fun e => hne e.symm)]
   rfl
  ·have hyr : (rowV ys).length = xs.length := by simp [rowV, hp.len]
   refine .inr ⟨gb, b, c, cur', by rw [hyr]; exact h1, by rw [hyr]; exact h4, h5, hw, by rw [hcs]; exact h7, fun cs hcs' => ?_, fun i cs j x hi hj => ?_⟩
   ·obtain ⟨i, hi⟩ := List.getElem?_of_mem hcs'
    obtain ⟨c', k1, rfl⟩ := Z6x hi
    rw [List.length_map]; exact hp.size c' (List.mem_of_getElem? k1)
   ·obtain ⟨c', k1, rfl⟩ := Z6x hi
    rw [List.getElem?_map, Option.map_eq_some_iff] at hj
    obtain ⟨u, k2, rfl⟩ := hj
    have hcl := hp.size c' (List.mem_of_getElem? k1)
    have hj' : j < k := by have := (List.getElem?_eq_some_iff.1 k2).1; omega
    have hi' : i < xs.length := by have := (List.getElem?_eq_some_iff.1 k1).1; rw [hp.len] at this; exact this
    have htl : i * k + j < xs.length * k := by
     have : (i + 1) * k ≤ xs.length * k := Nat.mul_le_mul_right _ hi'
     rw [Nat.succ_mul] at this; omega
    refine ⟨u, ?_, hp.one c' (List.mem_of_getElem? k1) u (List.mem_of_getElem? k2), .v _⟩
    rw [Nat.add_mul, Nat.add_assoc]
    exact hget _ htl u ((Z28 hp.size k1 hj').trans k2)
end
end Go.Proofs.YtahlodpolggeiaaGreatDoor.Eng
set_option linter.unusedVariables false
set_option linter.unusedSimpArgs false
namespace Go.Proofs.YtahlodpolggeiaaGreatDoor.Eng
open Go Go.RowKit
section
variable {P : Program} {T : Tab} {X : Ctx} {σ σ' : Nat → Option Blk} {F F' : Nat → Prop} {s s' : St} {a : Act} {w w' : World} {o : Oper} {c : Prop} {x : AV} {v : Value} {K : St → Prop}
theorem RowRep.store {g b c n e sz k j : Nat} {es : List (List AV)} (h : RowRep (.at_ g b c n) F w e sz es) (hk : k < es.length) {vs : List Value} {cs : List AV} (hl : vs.length = cs.length) (hb : j + cs.length ≤ sz) (h1 : ∀ u ∈ vs, u.oneCell' = true)
  (hr : ∀ (p : Nat) (x : AV) (u : Value), cs[p]? = some x → vs[p]? = some u → RepF F w x u) (hgF : ¬ F g) : ∃ cur : Array Value, w.heap[g]? = some (.cells cur e (0, 0)) ∧ (b + k) * sz + j + vs.length ≤ cur.size ∧
   RowRep (.at_ g b c n) F (w.setRow g (cur.toList.take ((b + k) * sz + j) ++ vs ++ cur.toList.drop ((b + k) * sz + j + vs.length)).toArray) e sz (es.set k (putA (getRow es k) j cs)) := by
 obtain ⟨e4, hle, hbc, cur, hg, hcs, hes, hcell⟩ := h.at
 have hrow : (b + k) * sz + sz ≤ cur.size := by
  rw [hcs, ← Nat.succ_mul]
  exact Nat.mul_le_mul_right _ (by omega)
 have hbb : (b + k) * sz + j + vs.length ≤ cur.size := by omega
 have hrk : es[k]? = some (getRow es k) := by simp [getRow, List.getElem?_eq_getElem hk]
 have hrl : (getRow es k).length = sz := hes _ (List.mem_of_getElem? hrk)
 refine ⟨cur, hg, hbb, ?_⟩
 refine .inr ⟨g, b, c, _, by rw [List.length_set, e4], by simpa using hle, hbc, setRow_heap w g _ _ e _ hg, by rw [Z53 _ _ _ hbb, hcs], fun r hr' => ?_, fun q r p x hq' hp => ?_⟩
 ·rcases List.mem_or_eq_of_mem_set hr' with h9 | h9
  ·exact hes r h9
  ·subst h9; simp [putA]; omega
 ·rw [Z2e _ _ _ hbb]
  have hmv : ∀ x u, RepF F w x u → RepF F (w.setRow g (cur.toList.take ((b + k) * sz + j) ++ vs ++ cur.toList.drop ((b + k) * sz + j + vs.length)).toArray) x u :=
   fun x u h => h.mono (fun _ h => h) (fun b hb => setRow_other w g b _ (fun e => hgF (e ▸ hb)))
  by_cases hqk : q = k
  ·subst hqk
   rw [List.getElem?_set_self hk] at hq'
   injection hq' with hq'
   subst hq'
   rw [Z6y _ _ _ _ (by omega)] at hp
   split at hp
   ·rename_i hcnd
    have hlt : p - j < vs.length := by omega
    rw [if_pos (by omega), show (b + q) * sz + p - ((b + q) * sz + j) = p - j by omega]
    exact ⟨_, List.getElem?_eq_getElem hlt, h1 _ (List.getElem_mem hlt), hmv _ _ (hr _ x _ hp (List.getElem?_eq_getElem hlt))⟩
   ·rename_i hcnd
    obtain ⟨u, h9, h10, h11⟩ := hcell q _ p x hrk hp
    rw [if_neg (by omega)]
    exact ⟨u, h9, h10, hmv _ _ h11⟩
  ·rw [List.getElem?_set_ne (by omega)] at hq'
   obtain ⟨u, h9, h10, h11⟩ := hcell q r p x hq' hp
   have hps : p < sz := by have := (List.getElem?_eq_some_iff.1 hp).1; rw [hes r (List.mem_of_getElem? hq')] at this; exact this
   rw [if_neg ?_]
   ·exact ⟨u, h9, h10, hmv _ _ h11⟩
   ·rintro ⟨h12, h13⟩
    rcases Nat.lt_or_gt_of_ne hqk with h14 | h14
    ·have : (b + q + 1) * sz ≤ (b + k) * sz := Nat.mul_le_mul_right _ (by omega)
     rw [Nat.succ_mul] at this
     omega
    ·have : (b + k + 1) * sz ≤ (b + q) * sz := Nat.mul_le_mul_right _ (by omega)
     rw [Nat.succ_mul] at this
     omega
end
end Go.Proofs.YtahlodpolggeiaaGreatDoor.Eng
set_option linter.unusedVariables false
set_option linter.unusedSimpArgs false
namespace Go.Proofs.YtahlodpolggeiaaGreatDoor.Eng
open Go Go.RowKit
section
variable {P : Program} {T : Tab} {X : Ctx} {σ σ' : Nat → Option Blk} {F F' : Nat → Prop} {s s' : St} {a : Act} {w w' : World} {o : Oper} {c : Prop} {x : AV} {v : Value} {K : St → Prop}
theorem RepV.mpv {es : List (ByteArray × Value)} {y : Value} (h : RepV σ F w (.mp es) y) : RepF F w (.mp es) y := by
 cases h with
 | f _ _ h => exact h
theorem Zic {t kt et : Nat} {y : Operand} (ho : o.op = .range t y) (ht : P.underlying t = some (.map kt et)) {es : List (ByteArray × Value)} (hy : s.ev y = .mp es) (hd : dOK X.n o.dst)
  (hK : K (St.put { s with heap := s.heap ++ [.iter none es] } o.dst (.nm s.heap.length []))) : opWPG P X o K s := by
 refine opWPG.mem (fun σ F a w hr => ?_) hd
 have hv := RepV.mpv (hy ▸ hr.ev y)
 have fin : ∀ (om : Option Nat) (c : Nat), (execOp a.eval o).run P w = .ok (.value (.pointer (some ⟨w.heap.size, 0, none⟩))) (w.alloc (.mapIter om c #[] c)) → IterIs F (w.alloc (.mapIter om c #[] c)) om c #[] c none es →
   ∃ v w' σ' F' s' x, (execOp a.eval o).run P w = .ok (.value v) w' ∧ Grow w w' ∧ RepAt X σ' F' s' a w' ∧ RepV σ' F' w' x v ∧ K (s'.put o.dst x) := by
  intro om c hrun hit
  refine ⟨.pointer (some ⟨w.heap.size, 0, none⟩), _, _, F, _, _, hrun, Grow.alloc w _, (hr.ext (Ext.alloc w (.mapIter om c #[] c))).new (k := .ext (fun h => h = w.heap.size) fun _ => .pointer (some ⟨w.heap.size, 0, none⟩)) (ob := .iter none es) ?_ (fun g hg => ?_), ?_, hK⟩
  ·exact ⟨w.heap.size, om, c, #[], c, Z2 _ _ _, heap_alloc_new w _, hit⟩
  ·have e1 : g = w.heap.size := hg
   subst e1
   refine ⟨by simp, fun hF => ?_, hr.keep.size, fun id h => ?_⟩
   ·have := hr.heap.flt _ hF; omega
   ·have := (hr.heap.lt _ _ h).1; omega
  ·exact .nm s.heap.length [] _ _ (Z2 _ _ _) rfl
 generalize hyv : a.eval y = yv at hv
 cases hv with
 | mp0 =>
  refine fin none 0 ?_ (.inl ⟨rfl, rfl, rfl⟩)
  simp only [execOp, ho, hyv, Sem.run_bind, run_range_nilMap w t kt et ht, Result.andThen_ok]
  rfl
 | mp es g arr clock hF hg hm =>
  have hgl : g < w.heap.size := hr.heap.flt g hF
  refine fin (some g) clock ?_ ?_
  ·simp only [execOp, ho, hyv, Sem.run_bind, run_range_map w t kt et g arr clock ht hg, Result.andThen_ok]
   rfl
  ·obtain ⟨⟨es0, h1, h2⟩, h3, h4, h5⟩ := hm
   refine .inr ⟨g, arr, clock, rfl, hF, ((MapKept.heap_alloc w _).2 g hgl).trans hg, h4, h5, rfl, rfl, fun l h => (by cases h), es0, ?_, h2⟩
   rw [← h1]
   congr 1
   simp [leftOf]
theorem Zaa (σ : Nat → Option Blk) (id : Nat) : upd σ id (σ id) = σ := by
 funext i
 by_cases e : i = id
 ·subst e; exact Z2 _ _ _
 ·exact Ze _ _ e
theorem op_next {y : Operand} (ho : o.op = .next y false) {id : Nat} {k : List Nat} (hy : s.ev y = .nm id k) {last : Option (ByteArray × Value)} {es : List (ByteArray × Value)} (hq : s.heap[id]? = some (.iter last es)) (hd : dOK X.n o.dst)
  (h0 : es = [] → K (s.put o.dst (.tup [.v (.bool false)])))
  (h1 : ∀ e rest, List.Perm (e :: rest) es → K (St.put { s with heap := s.heap.set id (.iter (some e) rest) } o.dst (.tup [.v (.bool true), .v (.string e.1), .v e.2]))) : opWP P X o K s := by
 rintro Qc nx a w hn ⟨σ, F, hr⟩
 obtain ⟨g, om, since, seen, c0, h2, h3, h4⟩ := hr.heap.obj id _ hq
 obtain ⟨gs, V, h5, h6⟩ := RepV.nmv (hy ▸ hr.ev y)
 rw [h2] at h5
 cases h5
 have hid : id < s.heap.length := (List.getElem?_eq_some_iff.1 hq).1
 have hown : hasB σ id g := ⟨_, h2, rfl⟩
 unfold Oper.wp
 have done : es = [] → (Instr.next (.pointer (some ⟨g, 0, none⟩)) false o.type).run P w = .ok (.tuple #[.bool false]) w → (match (execOp a.eval o).run P w with | _ => True) → (execOp a.eval o).run P w = .ok (.value (.tuple #[.bool false])) w := by
  intro _ hrun _
  simp [execOp, ho, h6, hrun, Sem.run_bind, Result.andThen]
 rcases h4 with ⟨rfl, rfl, rfl⟩ | ⟨m, arr, clock, rfl, hFm, hm, hnd, hborn, rfl, rfl, hlast, es0, hes0, hperm⟩
 ·have hrun : (Instr.next (.pointer (some ⟨g, 0, none⟩)) false o.type).run P w = .ok (.tuple #[.bool false]) w := by
   simp only [Instr.next, getObj, Sem.run_bind, Sem.run, h3, Result.andThen]
   rfl
  rw [done rfl hrun trivial]
  refine hn _ _ _ (h0 rfl) ⟨σ, F, hr.put hd (.tup _ [.bool false] rfl (fun j x u hx hu => ?_))⟩
  match j with
  | 0 => simp at hx hu; subst hx hu; exact .f _ _ (.v _)
  | j + 1 => simp at hx
 ·rcases run_next_at (P := P) w o.type g m c0 c0 seen arr c0 h3 hm hborn (Nat.le_refl _) with ⟨hz, hrun⟩ | ⟨e, he, w1, hal, hrun⟩
  ·have hnil : es = [] := by
    have : (leftOf arr seen).toList = [] := by
     apply List.eq_nil_of_length_eq_zero
     simpa using hz
    rw [this] at hes0
    have h7 : es0 = [] := by
     cases es0 with
     | nil => rfl
     | cons _ _ => simp at hes0
    subst h7
    exact List.nil_perm.1 hperm
   rw [done hnil hrun trivial]
   refine hn _ _ _ (h0 hnil) ⟨σ, F, hr.put hd (.tup _ [.bool false] rfl (fun j x u hx hu => ?_))⟩
   match j with
   | 0 => simp at hx hu; subst hx hu; exact .f _ _ (.v _)
   | j + 1 => simp at hx
  ·
   have heK : ∃ p ∈ es0, Z3o e = pairK p := by
    have : Z3o e ∈ es0.map pairK := by rw [← hes0]; exact List.mem_map_of_mem he
    obtain ⟨p, hp, hpe⟩ := List.mem_map.1 this
    exact ⟨p, hp, hpe.symm⟩
   have hearr : e ∈ arr.toList := by
    unfold leftOf at he
    simp at he ⊢
    exact he.1
   obtain ⟨l1, l2, hl⟩ := List.append_of_mem he
   have hsub : (leftOf arr seen).toList.Sublist arr.toList := by
    unfold leftOf
    rw [Array.toList_filter]
    exact List.filter_sublist
   have hndl : ((leftOf arr seen).toList.map (·.born)).Nodup := hnd.sublist (hsub.map _)
   have hleft : (leftOf arr (seen.push e.born)).toList = l1 ++ l2 := by
    have h8 : (leftOf arr (seen.push e.born)).toList = (leftOf arr seen).toList.filter fun x => !(x.born == e.born) := by
     unfold leftOf
     rw [Array.toList_filter, Array.toList_filter, List.filter_filter]
     apply List.filter_congr
     intro x _
     rw [Array.contains_push]
     cases seen.contains x.born <;> cases (x.born == e.born) <;> rfl
    rw [h8, hl]
    rw [hl, List.map_append, List.map_cons, List.nodup_append, List.nodup_cons] at hndl
    rw [List.filter_append, List.filter_cons_of_neg (by simp)]
    congr 1
    ·refine List.filter_eq_self.2 fun x hx => ?_
     have h9 := hndl.2.2 x.born (List.mem_map_of_mem hx) e.born (List.mem_cons_self ..)
     simpa using h9
    ·refine List.filter_eq_self.2 fun x hx => ?_
     have h9 : ¬ e.born = x.born := fun h => hndl.2.1.1 (h ▸ List.mem_map_of_mem hx)
     have h10 : ¬ x.born = e.born := fun h => h9 h.symm
     simpa using h10
   rw [hl, List.map_append, List.map_cons] at hes0
   obtain ⟨q1, q2, rfl, hq1, hq2⟩ := List.map_eq_append_iff.1 hes0.symm
   obtain ⟨p, q3, rfl, hp, hq3⟩ := List.map_eq_cons_iff.1 hq2
   have hperm2 : List.Perm (p :: (q1 ++ q3)) es := (List.perm_middle.symm).trans hperm
   have hw1 : w1.heap = w.heap ∧ w1.os = w.os ∧ w1.tape = w.tape ∧ w1.output = w.output := by
    rcases hal with rfl | rfl <;> exact ⟨rfl, rfl, rfl, rfl⟩
   let w2 : World := ChangeMaps.setBlock w1 g (.mapIter (some m) c0 (seen.push e.born) c0)
   have hgl : g < w.heap.size := (hr.heap.lt _ _ hown).1
   have hb1 : w2.heap[g]? = some (.mapIter (some m) c0 (seen.push e.born) c0) := by
    simp only [w2, ChangeMaps.setBlock, hw1.1]
    rw [Array.getElem?_setIfInBounds_self_of_lt hgl]
   have hb2 : ∀ b, b ≠ g → w2.heap[b]? = w.heap[b]? := fun b hb => by
    simp only [w2, ChangeMaps.setBlock, hw1.1]
    rw [Array.getElem?_setIfInBounds_ne (fun e => hb e.symm)]
   have hsz : w2.heap.size = w.heap.size := by simp [w2, ChangeMaps.setBlock, hw1.1]
   have hFF : ∀ b, F b → w2.heap[b]? = w.heap[b]? := fun b hb => hb2 b (fun e => (hr.heap.lt _ _ hown).2 (e ▸ hb))
   have hch := hr.change (w' := w2) (F' := F) hid (k := σ id) (f := _root_.id) (ob := .iter (some p) (q1 ++ q3)) hw1.2.1 hw1.2.2.1 hw1.2.2.2 (Nat.le_of_eq hsz.symm) (fun g' _ hn => hb2 g' (fun e => hn (e ▸ hown))) (fun _ h => h) (fun _ h => .inl h)
    (fun q g' hq' hg' => by
     have hb : hasB σ id g' := ⟨q, hq', hg'⟩
     exact ⟨by rw [hsz]; exact (hr.heap.lt _ _ hb).1, (hr.heap.lt _ _ hb).2, .inl hb⟩)
    (fun i sz off len y h => by rw [Zaa]; exact h.mono (fun _ h => h) hFF)
    (fun i q sz j y h => by rw [Zaa]; exact h.mono (fun _ h => h) hFF)
    (fun i q y h => by rw [Zaa]; exact h.mono (fun _ h => h) hFF)
    (fun _ => .inl rfl) (by
     rw [Zaa]
     refine ⟨g, some m, c0, seen.push e.born, c0, h2, hb1, .inr ⟨m, arr, c0, rfl, hFm, (hFF m hFm).trans hm, hnd, hborn, rfl, rfl, fun l hl' => ?_, q1 ++ q3, ?_, .refl _⟩⟩
     ·cases hl'
      exact ⟨e, hearr, seen, rfl, hp.symm⟩
     ·rw [hleft, List.map_append, List.map_append, hq1, hq3])
   rw [Z5h, Zb3, Zaa] at hch
   have hrun2 : (execOp a.eval o).run P w = .ok (.value (.tuple #[.bool true, .string p.1, p.2])) w2 := by
    have hk : e.key = .string p.1 ∧ e.val = p.2 := by
     have h9 : Z3o e = pairK p := hp.symm
     simp only [Z3o, pairK, Prod.mk.injEq] at h9
     exact h9
    simp [execOp, ho, h6, hrun, Sem.run_bind, Result.andThen, hk.1, hk.2, w2]
   rw [hrun2]
   refine hn _ _ _ (h1 p (q1 ++ q3) hperm2) ⟨σ, F, hch.put hd (.tup _ [.bool true, .string p.1, p.2] rfl (fun j x u hx hu => ?_))⟩
   match j with
   | 0 => simp at hx hu; subst hx hu; exact .f _ _ (.v _)
   | 1 => simp at hx hu; subst hx hu; exact .f _ _ (.v _)
   | 2 => simp at hx hu; subst hx hu; exact .f _ _ (.v _)
   | j + 3 => simp at hx
end
end Go.Proofs.YtahlodpolggeiaaGreatDoor.Eng
set_option linter.unusedVariables false
set_option linter.unusedSimpArgs false
namespace Go.Proofs.YtahlodpolggeiaaGreatDoor.Eng
open Go Go.RowKit
section
variable {P : Program} {T : Tab} {X : Ctx} {σ σ' : Nat → Option Blk} {F F' : Nat → Prop} {s s' : St} {a a' : Act} {w w' : World} {o : Oper} {c : Prop} {x : AV} {v : Value} {K : St → Prop}
def aside (X : Ctx) (σ : Nat → Option Blk) (F : Nat → Prop) (w : World) (id : Nat) : Ctx := ⟨X.n, w, fun g => ∃ i, i ≠ id ∧ hasB σ i g, F, 0, fun _ => none, X.ro, X.rf⟩
theorem RepAt.aside (hr : RepAt X σ F s a w) (hmk : X.rf = false) {id : Nat} (hid : id < s.heap.length) : RepAt (Eng.aside X σ F w id) (upd σ id none) F ⟨Z12 (Zf id) s.env, (s.heap.map (AObj.sub (Zf id))).set id .dead⟩ a w := by
 have h1 := hr.change (w' := w) (F' := F) (k := none) (f := Zf id) (ob := .dead) hid rfl rfl rfl (Nat.le_refl _) (fun _ _ _ => rfl) (fun _ h => h) (fun _ h => .inl h) (fun q g h => by cases h) Z7s Z7r Z37 (fun _ => .inr rfl) (Z2 _ _ _)
 refine ⟨(by have := h1.defers; rw [hmk] at this; rw [show (Eng.aside X σ F w id).rf = X.rf from rfl, hmk]; exact this), h1.size, h1.env, h1.heap, Keep.refl _ _, fun i g h => .inl ?_, fun b h => .inl h, fun i hi => absurd hi (Nat.not_lt_zero _), Nat.zero_le _⟩
 by_cases e : i = id
 ·subst e
  obtain ⟨q, h2, _⟩ := Z5d.1 h
  cases h2
 ·exact ⟨i, e, (Z46 e).1 h⟩
theorem RepAt.again (hr : RepAt X σ F s a w) (hmk : X.rf = false) (hm : X.m = 0) {id : Nat} {k : Blk} (hk : σ id = some k) (hr' : RepAt (Eng.aside X σ F w id) σ' F' s' a' w') (hd : s'.heap[id]? = some .dead) {ob : AObj}
  (hob : (∀ b, F b → (F b ∨ F' b) ∧ w'.heap[b]? = w.heap[b]?) → (∀ g, k.has g → w'.heap[g]? = w.heap[g]?) → RepO (upd σ' id (some k)) (fun b => F b ∨ F' b) w' id ob) :
  RepAt X (upd σ' id (some k)) (fun b => F b ∨ F' b) { s' with heap := s'.heap.set id ob } a' w' := by
 have hnone : σ' id = none := hr'.heap.obj id _ hd
 have hid : id < s'.heap.length := (List.getElem?_eq_some_iff.1 hd).1
 have hMn : ∀ g, hasB σ id g → ¬ (Eng.aside X σ F w id).M g := fun g hg ⟨i, hi, h⟩ => hi (hr.heap.inj _ _ _ h hg)
 have hkb : ∀ g, k.has g → hasB σ id g := fun g h => ⟨k, hk, h⟩
 have hsz : w.heap.size ≤ w'.heap.size := hr'.keep.size
 have hFw : ∀ b, F b → w'.heap[b]? = w.heap[b]? := fun b hb => hr'.keep.block b (hr.heap.flt b hb) (fun ⟨i, _, h⟩ => (hr.heap.lt _ _ h).2 hb)
 have hkw : ∀ g, k.has g → w'.heap[g]? = w.heap[g]? := fun g hg => hr'.keep.block g (hr.heap.lt _ _ (hkb g hg)).1 (hMn g (hkb g hg))
 have hgrow : ∀ i q, σ' i = some q → upd σ' id (some k) i = some q := fun i q h => by
  rw [Ze]
  ·exact h
  ·rintro rfl; rw [hnone] at h; cases h
 have hRV : ∀ x y, RepV σ' F' w' x y → RepV (upd σ' id (some k)) (fun b => F b ∨ F' b) w' x y := fun x y h => (h.mono (fun _ h => .inr h) (fun _ _ => rfl)).grow hgrow
 have hnew : ∀ i g, hasB σ' i g → ¬ k.has g := fun i g h h2 => by
  rcases hr'.own i g h with h3 | h3
  ·exact hMn g (hkb g h2) h3
  ·have := (hr.heap.lt _ _ (hkb g h2)).1
   have h4 : w.heap.size ≤ g := h3
   omega
 have hF2 : ∀ i g, hasB σ' i g → ¬ F g := fun i g h h2 => by
  rcases hr'.own i g h with ⟨j, _, h3⟩ | h3
  ·exact (hr.heap.lt _ _ h3).2 h2
  ·have := hr.heap.flt g h2
   have h4 : w.heap.size ≤ g := h3
   omega
 have hcase : ∀ i g, hasB (upd σ' id (some k)) i g → (i = id ∧ k.has g) ∨ (i ≠ id ∧ hasB σ' i g) := fun i g h => by
  by_cases e : i = id
  ·subst e
   obtain ⟨q, h1, h2⟩ := Z5d.1 h
   cases h1
   exact .inl ⟨rfl, h2⟩
  ·exact .inr ⟨e, (Z46 e).1 h⟩
 refine ⟨(by have := hr'.defers; rw [show (Eng.aside X σ F w id).rf = X.rf from rfl, hmk] at this; rw [hmk]; exact this), hr'.size, fun i => hRV _ _ (hr'.env i), ⟨fun i ob' ho => ?_, fun i hi => ?_, fun i i' g h1 h2 => ?_, fun i g h => ?_, fun b hb => ?_, hr'.heap.lay.mono (fun _ h => .inr h) (fun _ _ => rfl)⟩, ?_, fun i g h => ?_, fun b hb => ?_, fun i hi => absurd hi (by omega), by omega⟩
 ·by_cases e : i = id
  ·subst e
   rw [List.getElem?_set_self hid] at ho
   cases ho
   exact hob (fun b hb => ⟨.inl hb, hFw b hb⟩) hkw
  ·rw [List.getElem?_set_ne (fun h => e h.symm)] at ho
   rw [← AObj.sub_id ob']
   exact (hr'.heap.obj i ob' ho).move (hgrow i) (fun h => by rw [Ze _ _ e]; exact h) (fun x y h => h.mono (fun _ h => .inr h) (fun _ _ => rfl)) (fun b hb => ⟨.inr hb, rfl⟩) (fun _ _ => rfl) (fun x y h => by rw [AV.sub_id]; exact hRV x y h)
 ·have hi' : s'.heap.length ≤ i := by simpa using hi
  rw [Ze _ _ (by omega)]
  exact hr'.heap.out i hi'
 ·rcases hcase _ _ h1 with ⟨rfl, h3⟩ | ⟨_, h3⟩ <;> rcases hcase _ _ h2 with ⟨rfl, h4⟩ | ⟨_, h4⟩
  ·rfl
  ·exact absurd h3 (hnew _ _ h4)
  ·exact absurd h4 (hnew _ _ h3)
  ·exact hr'.heap.inj _ _ _ h3 h4
 ·rcases hcase _ _ h with ⟨rfl, h3⟩ | ⟨_, h3⟩
  ·have hl := hr.heap.lt _ _ (hkb g h3)
   refine ⟨by omega, fun hF => ?_⟩
   rcases hF with hF | hF
   ·exact hl.2 hF
   ·rcases hr'.fnew g hF with h4 | h4 | h4
    ·exact hl.2 h4
    ·exact hMn g (hkb g h3) h4
    ·have h5 : w.heap.size ≤ g := h4
     omega
  ·have hl := hr'.heap.lt _ _ h3
   exact ⟨hl.1, fun hF => hF.elim (hF2 _ _ h3) hl.2⟩
 ·rcases hb with hb | hb
  ·have := hr.heap.flt b hb; omega
  ·exact hr'.heap.flt b hb
 ·refine hr.keep.trans hr'.keep (fun g hg hM => ⟨hM, fun ⟨i, _, h⟩ => ?_⟩)
  rcases hr.own i g h with h1 | h1
  ·exact hM h1
  ·omega
 ·have hs0 := hr.keep.size
  rcases hcase _ _ h with ⟨rfl, h3⟩ | ⟨_, h3⟩
  ·exact hr.own _ _ (hkb g h3)
  ·rcases hr'.own i g h3 with ⟨j, _, h4⟩ | h4
   ·exact hr.own _ _ h4
   ·have h5 : w.heap.size ≤ g := h4
    exact .inr (by omega)
 ·have hs0 := hr.keep.size
  rcases hb with hb | hb
  ·exact hr.fnew b hb
  ·rcases hr'.fnew b hb with h4 | ⟨j, _, h4⟩ | h4
   ·exact hr.fnew b h4
   ·rcases hr.own _ _ h4 with h5 | h5
    ·exact .inr (.inl h5)
    ·exact .inr (.inr h5)
   ·have h5 : w.heap.size ≤ b := h4
    exact .inr (.inr (by omega))
theorem RepAt.leave (hr : RepAt X σ F s a w) (hmk : X.rf = false) (hm : X.m = 0) {id : Nat} (hr' : RepAt (Eng.aside X σ F w id) σ' F' s' a' w') : RepAt X σ' (fun b => F b ∨ F' b) s' a' w' := by
 have hsz : w.heap.size ≤ w'.heap.size := hr'.keep.size
 have hRV : ∀ x y, RepV σ' F' w' x y → RepV σ' (fun b => F b ∨ F' b) w' x y := fun x y h => h.mono (fun _ h => .inr h) (fun _ _ => rfl)
 have hF2 : ∀ i g, hasB σ' i g → ¬ F g := fun i g h h2 => by
  rcases hr'.own i g h with ⟨j, _, h3⟩ | h3
  ·exact (hr.heap.lt _ _ h3).2 h2
  ·have := hr.heap.flt g h2
   have h4 : w.heap.size ≤ g := h3
   omega
 refine ⟨(by have := hr'.defers; rw [show (Eng.aside X σ F w id).rf = X.rf from rfl, hmk] at this; rw [hmk]; exact this), hr'.size, fun i => hRV _ _ (hr'.env i), ⟨fun i ob' ho => ?_, hr'.heap.out, hr'.heap.inj, fun i g h => ?_, fun b hb => ?_, hr'.heap.lay.mono (fun _ h => .inr h) (fun _ _ => rfl)⟩, ?_, fun i g h => ?_, fun b hb => ?_, fun i hi => absurd hi (by omega), by omega⟩
 ·rw [← AObj.sub_id ob']
  exact (hr'.heap.obj i ob' ho).move (fun _ h => h) (fun h => h) (fun x y h => h.mono (fun _ h => .inr h) (fun _ _ => rfl)) (fun b hb => ⟨.inr hb, rfl⟩) (fun _ _ => rfl) (fun x y h => by rw [AV.sub_id]; exact hRV x y h)
 ·have hl := hr'.heap.lt _ _ h
  exact ⟨hl.1, fun hF => hF.elim (hF2 _ _ h) hl.2⟩
 ·rcases hb with hb | hb
  ·have := hr.heap.flt b hb; omega
  ·exact hr'.heap.flt b hb
 ·refine hr.keep.trans hr'.keep (fun g hg hM => ⟨hM, fun ⟨i, _, h⟩ => ?_⟩)
  rcases hr.own i g h with h1 | h1
  ·exact hM h1
  ·omega
 ·have hs0 := hr.keep.size
  rcases hr'.own i g h with ⟨j, _, h4⟩ | h4
  ·exact hr.own _ _ h4
  ·have h5 : w.heap.size ≤ g := h4
   exact .inr (by omega)
 ·have hs0 := hr.keep.size
  rcases hb with hb | hb
  ·exact hr.fnew b hb
  ·rcases hr'.fnew b hb with h4 | ⟨j, _, h4⟩ | h4
   ·exact hr.fnew b h4
   ·rcases hr.own _ _ h4 with h5 | h5
    ·exact .inr (.inl h5)
    ·exact .inr (.inr h5)
   ·have h5 : w.heap.size ≤ b := h4
    exact .inr (.inr (by omega))
theorem RepAt.know {d : Nat} (hr : RepAt X σ F s a w) (hv : RepV σ F w x (a.tmps.getD d undef)) : RepAt X σ F ⟨(d, x) :: s.env, s.heap⟩ a w :=
 ⟨hr.defers, hr.size, fun i => by
  simp only [envGet]
  split
  ·rename_i h; subst h; exact hv
  ·exact hr.env i, hr.heap, hr.keep, hr.own, hr.fnew, hr.stab, hr.hm⟩
end
end Go.Proofs.YtahlodpolggeiaaGreatDoor.Eng
set_option linter.unusedVariables false
set_option linter.unusedSimpArgs false
namespace Go.Proofs.YtahlodpolggeiaaGreatDoor.Eng
open Go Go.RowKit
structure CutPair (P : Program) (f k : Nat) (xs ys : List (List Value)) (m : Nat) : Prop where
 len : ys.length = xs.length
 le : m ≤ xs.length
 size : ∀ c ∈ ys, c.length = k
 one : ∀ c ∈ ys, ∀ v ∈ c, v.oneCell' = true
 atNone : xs = [] → ∀ (p : Option Addr) (cap : Nat) (w : World), Calls P f #[.slice p 0 cap] w fun e w' => e = .returned (.slice p 0 cap) ∧ w' = w
 atSome : xs ≠ [] → ∀ (blk off cap : Nat) (w : World), Sort.Holds id w blk off xs.flatten.toArray → blk < w.heap.size → xs.length ≤ cap → Calls P f #[.slice (some ⟨blk, off, none⟩) xs.length cap] w fun e w' => e = .returned (.slice (some ⟨blk, off, none⟩) m cap) ∧ ∃ n os, w' = Sort.grow (Sort.putRow id (Sort.ahead w n) blk off ys.flatten.toArray) os
section
variable {P : Program} {T : Tab} {X : Ctx} {σ σ' : Nat → Option Blk} {F F' : Nat → Prop} {s s' : St} {a : Act} {w w' : World} {o : Oper} {c : Prop} {x : AV} {v : Value} {K : St → Prop}
theorem op_cut {fop : Operand} {y : Operand} {ar : Array Operand} {ts : Array Nat} (ho : o.op = .call { callee := .value fop, args := ar, argTypes := ts }) (har : ar.toList = [y]) {f k m : Nat} (hf : s.ev fop = .fn f []) (hE : Enters P f) {xs ys : List (List Value)} (hp : CutPair P f k xs ys m)
  (hk : ∀ c ∈ xs, c.length = k) {id e0 : Nat} (hy : s.ev y = .own id k 0 xs.length) (hq : s.heap[id]? = some (.row e0 k (rowV xs))) (hd : dOK X.n o.dst) (hK : K (St.put ⟨s.env, s.heap.set id (.row e0 k (rowV ys))⟩ o.dst (.own id k 0 m))) : opWP P X o K s := by
 rintro Qc next a w hn ⟨σ, F, hr⟩
 have hid : id < s.heap.length := (List.getElem?_eq_some_iff.1 hq).1
 obtain ⟨us, hfv, hul, _⟩ := RepV.fnv (hf ▸ hr.ev fop)
 obtain rfl : us = [] := List.eq_nil_of_length_eq_zero hul.symm
 have hva : ar.map a.eval ++ #[] = #[a.eval y] := by
  apply Array.ext'
  simp [har]
 have hrun : (execOp a.eval o).run P w = .ok (.enter f (#[a.eval y])) w := by
  simp [execOp, ho, resolve, hfv, Deferred.ofValue, invoke, hE (#[a.eval y]) w]
  simpa using hva ▸ hE (#[a.eval y]) w
 obtain ⟨q, h1, h2⟩ := Zcb (hr.heap.obj id _ hq)
 have h3 := Zgg (hy ▸ hr.ev y) h1
 unfold Oper.wp
 rw [hrun]
 show Calls P f (#[a.eval y]) w _
 have hrl : (rowV xs).length = xs.length := by simp [rowV]
 by_cases h0 : xs = []
 ·obtain ⟨A, cap, hv⟩ := h3.slice
  rw [hv]
  have hys : ys = [] := List.eq_nil_of_length_eq_zero (by rw [hp.len, h0]; rfl)
  rw [h0]
  refine (hp.atNone h0 A cap w).mono ?_
  rintro e w' ⟨rfl, rfl⟩
  have hsame : s.heap.set id (.row e0 k (rowV ys)) = s.heap := by
   rw [hys, ← h0]
   apply List.ext_getElem?
   intro j
   by_cases hj : id = j
   ·subst hj; rw [List.getElem?_set_self hid, hq]
   ·rw [List.getElem?_set_ne hj]
  rw [hsame] at hK
  have hm0 : m = 0 := by have := hp.le; rw [h0] at this; exact Nat.le_zero.1 this
  have hvy : RepV σ F w' (.own id k 0 m) (.slice A 0 cap) := by
   have h7 := hy ▸ hr.ev y
   rw [hv, h0] at h7
   rw [hm0]
   exact h7
  exact hn _ _ _ hK ⟨σ, F, hr.put hd hvy⟩
 ·have hpos : 0 < xs.length := List.length_pos_iff.2 h0
  obtain ⟨gb, b, c, rfl⟩ := h2.pos (by rw [hrl]; exact hpos)
  rw [hrl] at h1 h2 h3
  have hv := h3.at hpos
  rw [hv]
  obtain ⟨_, h4, h5, cur, h6, h7, h8, h9⟩ := h2.at
  rw [hrl] at h4
  have hlt := hr.heap.lt _ _ (.at h1)
  have hfl := Z27 hk
  have hkpos : ∀ t, t < xs.length * k → 0 < k := fun t ht => by
   rcases Nat.eq_zero_or_pos k with h | h
   ·rw [h, Nat.mul_zero] at ht; omega
   ·exact h
  have hcell : ∀ t, t < xs.length * k → ∃ u, cur[b * k + t]? = some u ∧ xs.flatten[t]? = some u := fun t ht => by
   obtain ⟨i, j, hi, hj, rfl⟩ := Zq ht
   have hi2 := List.getElem?_eq_getElem hi
   have hcl := hk _ (List.getElem_mem hi)
   have hj2 : j < (xs[i]).length := by rw [hcl]; exact hj
   obtain ⟨u, k1, k2, k3⟩ := h9 i (xs[i].map .v) j (.v xs[i][j]) (by unfold rowV; rw [List.getElem?_map, hi2]; rfl) (by rw [List.getElem?_map, List.getElem?_eq_getElem hj2]; rfl)
   have hu : u = xs[i][j] := by cases k3; rfl
   refine ⟨u, ?_, ?_⟩
   ·rw [← k1, Nat.add_mul]; congr 1; omega
   ·rw [Z28 hk hi2 hj, List.getElem?_eq_getElem hj2, hu]
  have hH : Sort.Holds _root_.id w gb (b * k) xs.flatten.toArray := fun t ht => by
   have ht' : t < xs.length * k := by simpa [hfl] using ht
   obtain ⟨u, k1, k2⟩ := hcell t ht'
   have k3 : xs.flatten.toArray[t]! = u := by
    rw [getElem!_pos _ t ht]
    have : xs.flatten.toArray[t]? = some u := by simpa using k2
    rw [Array.getElem?_eq_getElem ht] at this
    exact Option.some.inj this
   refine ⟨?_, ?_⟩
   ·rw [k3]
    simp only [World.cell?, h6]
    simpa using k1
   ·simp [World.frozen?, h6]
  refine (hp.atSome h0 gb (b * k) c w hH hlt.1 h4).mono ?_
  rintro e w' ⟨rfl, n, os, rfl⟩
  have hyl : ys.flatten.length = xs.length * k := by rw [Z27 hp.size, hp.len]
  let Y := ys.flatten.toArray
  let cur' := Sort.putCells _root_.id (b * k) Y cur
  have hw1 : (Sort.putRow _root_.id (Sort.ahead w n) gb (b * k) Y).heap[gb]? = some (.cells cur' e0 (0, 0)) := by
   simp only [Sort.putRow, Sort.mapBlock, Array.getElem?_modify, if_true]
   rw [show (Sort.ahead w n).heap = w.heap from rfl, h6]
   rfl
  have hsz : (Sort.putRow _root_.id (Sort.ahead w n) gb (b * k) Y).heap.size = w.heap.size := by simp
  have hw : (Sort.grow (Sort.putRow _root_.id (Sort.ahead w n) gb (b * k) Y) os).heap[gb]? = some (.cells cur' e0 (0, 0)) := by
   rw [Sort.heap_grow_old _ _ (by rw [hsz]; exact hlt.1)]; exact hw1
  have hcs : cur'.size = cur.size := by simp [cur', Sort.putCells]
  have hget : ∀ t, t < xs.length * k → ∀ u, ys.flatten[t]? = some u → cur'[b * k + t]? = some u := fun t ht u hu => by
   obtain ⟨u0, k1, _⟩ := hcell t ht
   simp only [cur', Sort.putCells, Array.getElem?_mapIdx, k1, Option.map_some]
   rw [if_pos ⟨by omega, by simp only [Y, List.size_toArray, hyl]; omega⟩, show b * k + t - b * k = t by omega]
   have htl : t < Y.size := by simp only [Y, List.size_toArray, hyl]; exact ht
   have : Y[t]? = some u := by simpa [Y] using hu
   rw [getElem!_pos Y t htl]
   rw [Array.getElem?_eq_getElem htl] at this
   exact congrArg some (Option.some.inj this)
  refine hn _ _ _ hK ⟨σ, F, (hr.turnObj (w' := Sort.grow (Sort.putRow _root_.id (Sort.ahead w n) gb (b * k) Y) os) (ob := .row e0 k (rowV ys)) hid h1 rfl rfl rfl ?_ (fun g' hg' hne => ?_) ?_).put hd (by simpa using RepV.own (σ := σ) (F := F) id k 0 m gb b c xs.length h1 (by rw [Nat.zero_add]; exact hp.le) h4)⟩
  ·show w.heap.size ≤ ((Sort.putRow _root_.id (Sort.ahead w n) gb (b * k) Y).heap ++ os).size
   rw [Array.size_append, hsz]; omega
  ·rw [Sort.heap_grow_old _ _ (by rw [hsz]; exact hg')]
   simp only [Sort.putRow, Sort.mapBlock, Array.getElem?_modify]
   rw [if_neg (fun e => hne e.symm)]
   rfl
  ·have hyr : (rowV ys).length = xs.length := by simp [rowV, hp.len]
   refine .inr ⟨gb, b, c, cur', by rw [hyr]; exact h1, by rw [hyr]; exact h4, h5, hw, by rw [hcs]; exact h7, fun cs hcs' => ?_, fun i cs j x hi hj => ?_⟩
   ·obtain ⟨i, hi⟩ := List.getElem?_of_mem hcs'
    obtain ⟨c', k1, rfl⟩ := Z6x hi
    rw [List.length_map]; exact hp.size c' (List.mem_of_getElem? k1)
   ·obtain ⟨c', k1, rfl⟩ := Z6x hi
    rw [List.getElem?_map, Option.map_eq_some_iff] at hj
    obtain ⟨u, k2, rfl⟩ := hj
    have hcl := hp.size c' (List.mem_of_getElem? k1)
    have hj' : j < k := by have := (List.getElem?_eq_some_iff.1 k2).1; omega
    have hi' : i < xs.length := by have := (List.getElem?_eq_some_iff.1 k1).1; rw [hp.len] at this; exact this
    have htl : i * k + j < xs.length * k := by
     have : (i + 1) * k ≤ xs.length * k := Nat.mul_le_mul_right _ hi'
     rw [Nat.succ_mul] at this; omega
    refine ⟨u, ?_, hp.one c' (List.mem_of_getElem? k1) u (List.mem_of_getElem? k2), .v _⟩
    rw [Nat.add_mul, Nat.add_assoc]
    exact hget _ htl u ((Z28 hp.size k1 hj').trans k2)
theorem Rep.takeRow {s : St} (hr : Rep X s a w) {i id e sz len : Nat} {es : List (List AV)} (hi : envGet s.env i = .own id sz 0 len) (hq : s.heap[id]? = some (.row e sz es)) (hf : len ≤ es.length) (hm : X.m ≤ id) :
  Rep X ⟨(i, .own id sz 0 len) :: Z12 (Zf id) s.env, (s.heap.map (AObj.sub (Zf id))).set id (.row e sz (es.take len))⟩ a w := by
 obtain ⟨σ, F, hr⟩ := hr
 have hid : id < s.heap.length := (List.getElem?_eq_some_iff.1 hq).1
 have hob := hr.heap.obj id _ hq
 have hv := hi ▸ hr.env i
 have hRF : ∀ x y, RepF F w x y → RepF F w x y := fun x y h => h
 have fin : ∀ (k : Option Blk), (∀ q g, k = some q → q.has g → g < w.heap.size ∧ ¬ F g ∧ (hasB σ id g ∨ w.heap.size ≤ g)) → RepO (upd σ id k) F w id (.row e sz (es.take len)) → RepV (upd σ id k) F w (.own id sz 0 len) (a.tmps.getD i undef) →
   Rep X ⟨(i, .own id sz 0 len) :: Z12 (Zf id) s.env, (s.heap.map (AObj.sub (Zf id))).set id (.row e sz (es.take len))⟩ a w := by
  intro k hk hO hV
  have h1 := hr.change (w' := w) (F' := F) (f := Zf id) hid (k := k) rfl rfl rfl (Nat.le_refl _) (fun _ _ _ => rfl) (fun _ h => h) (fun _ h => .inl h) hk (Z5b hRF) (Z5a hRF) Z37 (fun h => absurd h (Nat.not_lt.2 hm)) hO
  refine ⟨_, F, h1.defers, h1.size, fun j => ?_, h1.heap, h1.keep, h1.own, h1.fnew, h1.stab, h1.hm⟩
  simp only [envGet]
  split
  ·rename_i e; subst e; exact hV
  ·exact h1.env j
 have htl : (es.take len).length = len := by rw [List.length_take]; omega
 rcases RepV.ownv hv with ⟨h1, _, h0, h2⟩ | ⟨g, b, c, n, h1, hn, hc, h2⟩
 ·subst h0
  refine fin (some .nil) (fun q g h hg => by cases h; exact hg.elim) (.inl ⟨Z2 _ _ _, by simp⟩) ?_
  rw [h2]; exact .own0 _ _ (Z2 _ _ _)
 ·rcases hob with ⟨h3, _⟩ | ⟨g', b', c', cur, h3, h4, h5, h6, h7, h8, h9⟩
  ·rw [h1] at h3; cases h3
  ·rw [h1] at h3
   injection h3 with h3
   injection h3 with e1 e2 e3 e4
   subst e1 e2 e3
   have hlt := hr.heap.lt _ _ (.at h1)
   refine fin (some (.at_ g b c len)) (fun q1 g1 h hg1 => ?_) (.inr ⟨g, b, c, cur, ?_, ?_, h5, h6, h7, fun cs hcs => h8 cs (List.mem_of_mem_take hcs), fun j cs q x hj hx => ?_⟩) ?_
   ·cases h
    have e1 : g1 = g := hg1
    subst e1
    exact ⟨hlt.1, hlt.2, .inl (.at h1)⟩
   ·rw [Z2, htl]
   ·rw [htl]; omega
   ·rw [List.getElem?_take] at hj
    split at hj
    ·exact h9 j cs q x hj hx
    ·cases hj
   ·rcases h2 with h2 | ⟨h2, h3, h10, A, h11⟩
    ·rw [h2]
     exact RepV.own (σ := upd σ id (some (.at_ g b c len))) (F := F) (w := w) id sz 0 len g b c len (Z2 _ _ _) (by omega) (by omega)
    ·subst h2
     rw [h11]
     exact .ownz _ _ _ g b c 0 A (Z2 _ _ _) rfl (by omega)
end
end Go.Proofs.YtahlodpolggeiaaGreatDoor.Eng
set_option linter.unusedVariables false
set_option linter.unusedSimpArgs false
namespace Go.Proofs.YtahlodpolggeiaaGreatDoor.Eng
open Go Go.RowKit
def Says (keep : List Nat) (h : List AObj) (args : List AV) (h0 : List AObj) (args' : List AV) : Prop :=
 args'.length = args.length ∧ h0.length = keep.length ∧ ∀ (σ : Nat → Option Blk) (F : Nat → Prop) (w : World), HRep σ F w h → HRep (selσ keep σ) F w h0 ∧ ∀ (j : Nat) (x x' : AV) (v : Value), args[j]? = some x → args'[j]? = some x' → RepV σ F w x v → RepV (selσ keep σ) F w x' v
section
variable {P : Program} {T : Tab} {X : Ctx} {σ σ' : Nat → Option Blk} {F F' : Nat → Prop} {s s' : St} {a : Act} {w w' : World} {o : Oper} {c : Prop} {x : AV} {v : Value} {K : St → Prop}
def RetW (T : Tab) (fn : Func) (m : Nat) (post : AV → List AObj → Prop) (s : St) : Prop :=
 match Z3l T s fn.results.toList with
 | some (c, xs) => c ∧ ∃ extra : List Nat, (List.range m ++ extra).Nodup ∧ (∀ i ∈ extra, i < s.heap.length) ∧ ∃ ret h', post ret h' ∧ Says (List.range m ++ extra) s.heap [retAV xs] h' [ret]
 | none => False
def QretW (T : Tab) (fn : Func) (m : Nat) (post : AV → List AObj → Prop) : Exit → St → Prop
 | .normal, s => RetW T fn m post s
 | .ret, s => RetW T fn m post s
 | _, _ => False
theorem FSpec.of_WPw {P : Program} {T : Tab} (hT : Zg P T) {f : Nat} {fn : Func} {c : Code} (hf : P.funcs[f]? = some fn) (hb : fn.body = some c) {h0 : List AObj} {args : List AV} {post : AV → List AObj → Prop}
  (h : ∀ X : Ctx, X.n = args.length + (fn.ntmps - args.length) → X.m = h0.length → X.ro = none → X.rf = false → WP P X c (QretW T fn h0.length post) ⟨Zt 0 args, h0⟩) : FSpec P f h0 args post := by
 intro σ F w vs hh hl hargs
 let X : Ctx := ⟨args.length + (fn.ntmps - args.length), w, ownB σ, F, h0.length, σ, none, false⟩
 refine calls_of_wp hf hb ?_
 have hrep : RepAt X σ F ⟨Zt 0 args, h0⟩ { tmps := vs.toArray ++ Array.replicate (fn.ntmps - vs.toArray.size) undef, defers := [] } w := by
  refine ⟨rfl, by simp [X, hl], fun i => ?_, hh, Keep.refl _ _, fun id g h => .inl ⟨id, h⟩, fun b hb => .inl hb, fun id _ => .inl rfl, Nat.le_refl _⟩
  rw [envGet_enum, if_pos (Nat.zero_le _), Nat.sub_zero]
  cases hx : args[i]? with
  | none => exact .f _ _ (.any _)
  | some x =>
   have hlt : i < vs.length := by have := (List.getElem?_eq_some_iff.1 hx).1; omega
   have : (vs.toArray ++ Array.replicate (fn.ntmps - vs.toArray.size) undef).getD i undef = vs[i] := by
    rw [Array.getD_eq_getD_getElem?, Array.getElem?_append_left (by simpa using hlt)]
    simp [hlt]
   rw [this]
   exact hargs i x _ hx (List.getElem?_eq_getElem hlt)
 refine Code.wp_mono' ((WP.wide rfl).1 (h X rfl rfl rfl rfl _ _ ⟨σ, F, hrep⟩)) ?_
 have fin : ∀ s a w', RetW T fn h0.length post s → Rep X s a w' → a.defers = [] ∧ ∃ v, (results fn a.tmps).run P w' = .ok v w' ∧ ∃ ret h' σ' F' rv, post ret h' ∧ Ending.returned v = .returned rv ∧ RepV σ' F' w' ret rv ∧ HRep σ' F' w' h' ∧ Keep (ownB σ) w w' ∧
   (∀ id g, hasB σ' id g → ownB σ g ∨ w.heap.size ≤ g) ∧ (∀ b, F' b → F b ∨ ownB σ b ∨ w.heap.size ≤ b) ∧ (∀ id, id < h0.length → σ' id = σ id ∨ σ' id = none) ∧ h0.length ≤ h'.length := by
  rintro s a w' hret ⟨σ', F', hr⟩
  unfold RetW at hret
  split at hret
  ·rename_i c xs hres
   obtain ⟨hc, extra, hnd, hin, ret, h', hpost, _, hhl, hS⟩ := hret
   obtain ⟨v, hv, hrv⟩ := Z5t hT hr hres hc
   obtain ⟨hS1, hS2⟩ := hS σ' F' w' hr.heap
   refine ⟨hr.defers, v, hv, ret, h', selσ (List.range h0.length ++ extra) σ', F', v, hpost, rfl, hS2 0 _ _ v rfl rfl hrv, hS1, hr.keep, fun id g hs => ?_, hr.fnew, fun id hid => ?_, by rw [hhl]; simp⟩
   ·obtain ⟨i, _, h1⟩ := Z2i hs
    exact hr.own _ _ h1
   ·have : selσ (List.range h0.length ++ extra) σ' id = σ' id := by
     simp [selσ, List.getElem?_append_left (show id < (List.range h0.length).length by simpa using hid), List.getElem?_range hid]
    rw [this]
    exact hr.stab id hid
  ·exact hret.elim
 rintro e a w' ⟨s, hq, hr⟩
 cases e with
 | normal => exact fin s a w' hq hr
 | ret => exact fin s a w' hq hr
 | _ => exact hq.elim
end
end Go.Proofs.YtahlodpolggeiaaGreatDoor.Eng
set_option linter.unusedVariables false
set_option linter.unusedSimpArgs false
namespace Go.Proofs.YtahlodpolggeiaaGreatDoor.Eng
open Go Go.RowKit
def ShapeL (S : Nat → List AV → Prop) : List Nat → List AV → Prop
 | [], xs => xs = []
 | t :: ts, xs => ∃ a b, xs = a ++ b ∧ S t a ∧ ShapeL S ts b
def ShapeC (T : Tab) : Nat → Nat → List AV → Prop
 | 0, _, _ => False
 | m + 1, t, xs => match T t with
  | some ⟨.int k, _, _, _⟩ => ∃ n, xs = [.v (.int k n)] ∧ (Lit.int k n).wf = true
  | some ⟨.bool, _, _, _⟩ => ∃ b, xs = [.v (.bool b)]
  | some ⟨.str, _, _, _⟩ => ∃ s : ByteArray, xs = [.v (.string s)] ∧ s.size ≤ reachBytes
  | some ⟨.slice e, _, _, _⟩ => match T e with
   | some i => ∃ es, xs = [.ro i.size es] ∧ es.length * i.bytes ≤ reachBytes ∧ ∀ c ∈ es, ShapeC T m e c
   | none => False
  | some ⟨.struct fs, _, _, _⟩ => ShapeL (ShapeC T m) (fs.map (·.2)) xs
  | _ => False
def tileB (T : Tab) : Nat → List (Nat × Nat) → Option Nat
 | off, [] => some off
 | off, (o, t) :: r => if o = off then match T t with | some i => tileB T (off + i.size) r | none => none else none
def supB (T : Tab) : Nat → Nat → Bool
 | 0, _ => false
 | m + 1, t => match T t with
  | some ⟨.int _, _, _, _⟩ | some ⟨.bool, _, _, _⟩ | some ⟨.str, _, _, _⟩ => true
  | some ⟨.slice e, _, _, _⟩ => match T e with | some i => decide (0 < i.size) && supB T m e | none => false
  | some ⟨.struct fs, n, _, _⟩ => decide (tileB T 0 fs = some n) && fs.all (fun p => supB T m p.2)
  | _ => false
def CellsOK (F : Nat → Prop) (w : World) (xs : List AV) (cs : List Value) : Prop := xs.length = cs.length ∧ ∀ (j : Nat) (x : AV) (v : Value), xs[j]? = some x → cs[j]? = some v → RepF F w x v ∧ v.oneCell' = true
section
variable {H : Type} {enc : TypeId × Value → H} {P : Program} {T : Tab} {w : World} {sp : Nat → Bool} {held : Bool}
theorem TIOk.cellsOf {t : Nat} {i : TI} (h : TIOk P t i) : P.cellsOf t = i.size ∧ P.bytesOf t = i.bytes := by
 obtain ⟨x, hx, hh⟩ := Option.map_eq_some_iff.1 h.info
 simp only [Prod.mk.injEq] at hh
 simp [Program.cellsOf, Program.bytesOf, hx, hh.2.1, hh.2.2]
theorem tile_le : ∀ {l : List (Nat × Nat)} {off e : Nat}, tileB T off l = some e → off ≤ e
 | [], off, e, h => by simp [tileB] at h; omega
 | (o, t) :: r, off, e, h => by
  unfold tileB at h
  split at h
  ·split at h
   ·have := tile_le h; omega
   ·cases h
  ·cases h
theorem weightsAll_mem {e : Nat} : ∀ {l : List (DataW H)} {d : DataW H}, (DataW.weightsAll P e l).all (· ≤ reachBytes) = true → d ∈ l → (d.weights P e).all (· ≤ reachBytes) = true
 | y :: r, d, h, hd => by
  unfold DataW.weightsAll at h
  rw [List.all_append, Bool.and_eq_true] at h
  rcases List.mem_cons.1 hd with rfl | hd
  ·exact h.1
  ·exact weightsAll_mem h.2 hd
theorem list_of {α : Type} {Pr : Nat → α → Prop} : ∀ (n : Nat), (∀ i, i < n → ∃ c, Pr i c) → ∃ l : List α, l.length = n ∧ ∀ i c, l[i]? = some c → Pr i c
 | 0, _ => ⟨[], rfl, fun i c h => by simp at h⟩
 | n + 1, h => by
  obtain ⟨l, hl, hp⟩ := list_of n (fun i hi => h i (by omega))
  obtain ⟨c, hc⟩ := h n (by omega)
  refine ⟨l ++ [c], by simp [hl], fun i x hx => ?_⟩
  rcases Nat.lt_or_ge i l.length with h1 | h1
  ·rw [List.getElem?_append_left h1] at hx; exact hp i x hx
  ·rw [List.getElem?_append_right h1] at hx
   have h2 : i - l.length = 0 := by
    have := (List.getElem?_eq_some_iff.1 hx).1; simp at this; exact this
   rw [h2] at hx
   simp at hx
   subst hx
   obtain rfl : i = n := by omega
   exact hc
abbrev Old (w : World) : Nat → Prop := fun b => b < w.heap.size
theorem open_fields {m n : Nat} {cs : List Value} (hT : Zg P T) (ih : ∀ (t : Nat) (cs : List Value) (x : DataW H × List MemPlace), supB T m t = true → DataW.trod enc P w 0 sp held n t cs = some x → (x.1.weights P t).all (· ≤ reachBytes) = true → ∃ xs, ShapeC T m t xs ∧ CellsOK (Old w) w xs cs) :
  ∀ (fl : List Field) (xs : List (DataW H × List MemPlace)) (off e : Nat), fl.length = xs.length → (∀ (i : Nat) (f : Field), fl[i]? = some f → DataW.trod enc P w 0 sp held n f.type ((cs.drop f.offset).take (P.cellsOf f.type)) = xs[i]?) → tileB T off (fl.map fun f => (f.offset, f.type)) = some e → e = cs.length →
   (fl.map fun f => (f.offset, f.type)).all (fun p => supB T m p.2) = true → (DataW.weightsEach P (fl.map (·.type)) (xs.map (·.1))).all (· ≤ reachBytes) = true →
   ∃ ys, ShapeL (ShapeC T m) (fl.map (·.type)) ys ∧ off + ys.length = e ∧ ∀ (j : Nat) (x : AV) (v : Value), ys[j]? = some x → cs[off + j]? = some v → RepF (Old w) w x v ∧ v.oneCell' = true
 | [], xs, off, e, hl, h, ht, he, hs, hw => ⟨[], rfl, by simp [tileB] at ht; simpa using ht, fun j x v hx => by simp at hx⟩
 | f :: fl, [], off, e, hl, h, ht, he, hs, hw => by simp at hl
 | f :: fl, x :: xs, off, e, hl, h, ht, he, hs, hw => by
  simp only [List.map_cons, tileB] at ht
  split at ht
  ·rename_i ho
   split at ht
   ·rename_i i hi
    simp only [List.map_cons, List.all_cons, Bool.and_eq_true] at hs
    simp only [List.map_cons, DataW.weightsEach, List.all_append, Bool.and_eq_true] at hw
    have hle := tile_le ht
    have h0 := h 0 f rfl
    rw [(hT _ _ hi).cellsOf.1, ho] at h0
    obtain ⟨a, ha, hal, hac⟩ := ih _ _ x hs.1 h0 hw.1
    obtain ⟨b, hb, hbl, hbc⟩ := open_fields hT ih fl xs _ e (by simpa using hl) (fun k g hg => h (k + 1) g (by simpa using hg)) ht he hs.2 hw.2
    have hal' : a.length = i.size := by rw [hal]; simp; omega
    refine ⟨a ++ b, ⟨a, b, rfl, ha, hb⟩, by simp; omega, fun j x v hx hv => ?_⟩
    rcases Nat.lt_or_ge j a.length with h1 | h1
    ·rw [List.getElem?_append_left h1] at hx
     refine hac j x v hx ?_
     rw [List.getElem?_take, if_pos (by omega), List.getElem?_drop]
     exact hv
    ·rw [List.getElem?_append_right h1] at hx
     refine hbc _ x v hx ?_
     rw [← hv]; congr 1; omega
   ·cases ht
  ·cases ht
theorem open_shape (hT : Zg P T) : ∀ (m : Nat) (t fuel : Nat) (cs : List Value) (x : DataW H × List MemPlace), supB T m t = true → DataW.trod enc P w 0 sp held fuel t cs = some x → (x.1.weights P t).all (· ≤ reachBytes) = true →
  ∃ xs, ShapeC T m t xs ∧ CellsOK (Old w) w xs cs
 | 0, _, _, _, _, hs, _, _ => by simp [supB] at hs
 | m + 1, t, fuel, cs, x, hs, h, hw => by
  have one : ∀ (y : Value), y.oneCell' = true → CellsOK (Old w) w [.v y] [y] := fun y hy => ⟨rfl, fun j x v hx hv => by
   have : j = 0 := by have := (List.getElem?_eq_some_iff.1 hx).1; simp at this; exact this
   subst this
   simp at hx hv
   subst hx hv
   exact ⟨.v _, hy⟩⟩
  unfold supB at hs
  unfold ShapeC
  split at hs
  ·rename_i k n b z ht
   obtain ⟨q, rfl, rfl, hq⟩ := DataW.trod_int (hT _ _ ht).kind h
   try rw [ht]
   exact ⟨_, ⟨q, rfl, hq⟩, one _ rfl⟩
  ·rename_i n b z ht
   obtain ⟨q, rfl, rfl⟩ := DataW.trod_bool (hT _ _ ht).kind h
   try rw [ht]
   exact ⟨_, ⟨q, rfl⟩, one _ rfl⟩
  ·rename_i n b z ht
   obtain ⟨q, rfl, rfl, hq⟩ := DataW.trod_string (hT _ _ ht).kind h
   try rw [ht]
   refine ⟨_, ⟨q, rfl, ?_⟩, one _ rfl⟩
   simp [DataW.weights] at hw
   exact hw
  ·rename_i e n b z ht
   split at hs
   ·rename_i i hi
    rw [Bool.and_eq_true, decide_eq_true_eq] at hs
    try rw [ht]
    try rw [hi]
    obtain ⟨hsz, hby⟩ := (hT _ _ hi).cellsOf
    rcases DataW.trod_slice (hT _ _ ht).kind h with ⟨rfl, rfl⟩ | ⟨a, len, cap, elems, rest, q, rfl, rfl, rfl, hb, hl, hm, hlen, hel, _, _⟩
    ·refine ⟨_, ⟨[], rfl, by simp, fun c hc => by cases hc⟩, rfl, fun j x v hx hv => ?_⟩
     have : j = 0 := by have := (List.getElem?_eq_some_iff.1 hx).1; simp at this; exact this
     subst this
     simp at hx hv
     subst hx hv
     exact ⟨.nil0 _ _ _, rfl⟩
    ·simp only [DataW.weights, (show P.underlying t = some (.slice e) from (hT _ _ ht).kind), List.all_cons, List.all_append, Bool.and_eq_true, decide_eq_true_eq] at hw
     obtain ⟨hw1, hw2, _⟩ := hw
     have each : ∀ k, k < len → ∃ c : List AV, ShapeC T m e c ∧ ∃ ds, w.cells? 0 (a.add (k * i.size)) i.size = some ds ∧ CellsOK (Old w) w c ds := fun k hk => by
      have h1 := hel k hk
      have hke : k < elems.length := by omega
      rw [hsz, List.getElem?_eq_getElem hke] at h1
      obtain ⟨ds, hds, htr⟩ := Option.bind_eq_some_iff.1 h1
      obtain ⟨c, hc, hcc⟩ := open_shape hT m e q ds _ hs.2 htr (weightsAll_mem hw2 (List.mem_map_of_mem (List.getElem_mem hke)))
      exact ⟨c, hc, ds, hds, hcc⟩
     obtain ⟨es, hes, hall⟩ := list_of len each
     refine ⟨[.ro i.size es], ⟨es, rfl, ?_, fun c hc => ?_⟩, rfl, fun j x v hx hv => ?_⟩
     ·rw [hby] at hw1
      simp only [List.length_map] at hw1
      rw [hes]
      exact Nat.le_trans (Nat.mul_le_mul_right _ (by omega)) hw1
     ·obtain ⟨k, hk⟩ := List.getElem?_of_mem hc
      exact (hall k c hk).1
     ·have : j = 0 := by have := (List.getElem?_eq_some_iff.1 hx).1; simp at this; exact this
      subst this
      simp at hx hv
      subst hx hv
      refine ⟨?_, rfl⟩
      have key : ∀ k c, es[k]? = some c → c.length = i.size ∧ ∀ (j : Nat) (y : AV), c[j]? = some y → ∃ u, w.cell? (a.add (k * i.size + j)) = some u ∧ RepF (Old w) w y u ∧ u.oneCell' = true := fun k c hk => by
       obtain ⟨_, ds, hds, hcl, hcc⟩ := hall k c hk
       obtain ⟨_, hdl, hcell⟩ := World.cells?_some hds
       refine ⟨by omega, fun j y hy => ?_⟩
       have hj : j < c.length := (List.getElem?_eq_some_iff.1 hy).1
       have hj2 : j < ds.length := by omega
       obtain ⟨h1, h2⟩ := hcc j y ds[j] hy (List.getElem?_eq_getElem hj2)
       refine ⟨ds[j], ?_, h1, h2⟩
       rw [← Z88, hcell j (by omega), List.getElem?_eq_getElem hj2]
      rcases Nat.eq_zero_or_pos len with h0 | h0
      ·subst h0
       obtain rfl : es = [] := List.eq_nil_of_length_eq_zero hes
       exact .nil0 _ _ _
      ·refine .ro _ _ _ _ a (fun k j => (w.cell? (a.add (k * i.size + j))).getD undef) hes hl ?_ (fun c hc => ?_) (fun k c j y hk hy => ?_) (fun k c j y hk hy => ?_)
       ·obtain ⟨c, hc⟩ : ∃ c, es[0]? = some c := ⟨_, List.getElem?_eq_getElem (by omega)⟩
        obtain ⟨hcl, hcc⟩ := key 0 c hc
        obtain ⟨u, hu, _⟩ := hcc 0 _ (List.getElem?_eq_getElem (by omega))
        have := World.block_lt_of_cell? w _ hu
        rw [Z1v] at this
        exact this
       ·obtain ⟨k, hk⟩ := List.getElem?_of_mem hc
        exact (key k c hk).1
       ·obtain ⟨u, hu, h1, h2⟩ := (key k c hk).2 j y hy
        rw [hu]; exact ⟨rfl, h2⟩
       ·obtain ⟨u, hu, h1, h2⟩ := (key k c hk).2 j y hy
        rw [hu]; exact h1
   ·cases hs
  ·rename_i fs n b z ht
   rw [Bool.and_eq_true, decide_eq_true_eq] at hs
   try rw [ht]
   obtain ⟨ar, hu, hm⟩ := (hT _ _ ht).kind
   obtain ⟨xs, q, rfl, rfl, hcl, hxl, hx⟩ := DataW.trod_struct hu h
   subst hm
   have hcn : P.cellsOf t = n := (hT _ _ ht).cellsOf.1
   simp only [DataW.weights, hu] at hw
   obtain ⟨ys, h1, h2, h3⟩ := open_fields (cs := cs) hT (fun t cs x h1 h2 h3 => open_shape hT m t q cs x h1 h2 h3) ar.toList xs 0 n (by simp [hxl]) (fun k f hf => hx k f (by simpa using hf)) hs.1 (by rw [hcl, hcn]) hs.2 (by simpa using hw)
   refine ⟨ys, by simpa [List.map_map, Function.comp_def] using h1, by rw [hcl, hcn]; omega, fun j x v hx hv => h3 j x v hx (by simpa using hv)⟩
  ·cases hs
end
end Go.Proofs.YtahlodpolggeiaaGreatDoor.Eng
set_option linter.unusedVariables false
set_option linter.unusedSimpArgs false
namespace Go.Proofs.YtahlodpolggeiaaGreatDoor.Eng
open Go Go.RowKit Go.ChangeShapes Go.WideShapes
def ShapeV (T : Tab) (m t : Nat) (x : AV) : Prop := match T t with
 | some ⟨.struct _, _, _, _⟩ => ∃ xs, x = .agg xs ∧ ShapeC T m t xs
 | _ => ShapeC T m t [x]
def ShapeA (T : Tab) (m : Nat) : List Nat → List AV → Prop
 | [], xs => xs = []
 | t :: ts, xs => ∃ x r, xs = x :: r ∧ ShapeV T m t x ∧ ShapeA T m ts r
section
variable {H : Type} {enc : TypeId × Value → H} {P : Program} {T : Tab} {W : World}
theorem ShapeC.one {m t : Nat} {xs : List AV} (h : ShapeC T m t xs) (hns : ∀ fs n b z, T t ≠ some ⟨.struct fs, n, b, z⟩) : ∃ x, xs = [x] := by
 cases m with
 | zero => exact h.elim
 | succ m =>
  unfold ShapeC at h
  split at h
  ·obtain ⟨n, rfl, _⟩ := h; exact ⟨_, rfl⟩
  ·obtain ⟨n, rfl⟩ := h; exact ⟨_, rfl⟩
  ·obtain ⟨n, rfl, _⟩ := h; exact ⟨_, rfl⟩
  ·split at h
   ·obtain ⟨n, rfl, _⟩ := h; exact ⟨_, rfl⟩
   ·exact h.elim
  ·rename_i fs n b z ht
   exact absurd ht (hns fs n b z)
  ·exact h.elim
theorem open_arg (hT : Zg P T) {m t : Nat} {v : Value} {d : DataW H} {p : List MemPlace} {sp : Nat → Bool} {held : Bool} {r : Reach} {b0 : Nat} (hs : supB T m t = true) (hval : Value.okWide P W r b0 t v) (h : DataW.Trod enc P W 0 sp held t v d p) (hw : (d.weights P t).all (· ≤ reachBytes) = true) :
  ∃ x, ShapeV T m t x ∧ RepV (fun _ => none) (Old W) W x v := by
 obtain ⟨fuel, hf⟩ := h
 obtain ⟨xs, hx, hl, hc⟩ := open_shape hT m t fuel _ _ hs hf hw
 by_cases hst : ∃ fs n b z, T t = some ⟨.struct fs, n, b, z⟩
 ·obtain ⟨fs, n, b, z, ht⟩ := hst
  obtain ⟨ar, hu, _⟩ := (hT _ _ ht).kind
  simp only [Value.okWide, hu] at hval
  obtain ⟨cs, rfl, _, _⟩ := hval
  refine ⟨.agg xs, by unfold ShapeV; rw [ht]; exact ⟨xs, rfl, hx⟩, ?_⟩
  have := RepV.agg (σ := fun _ => none) (F := Old W) (w := W) xs cs.toList (by simpa [Value.cells] using hl) (fun u hu => ?_) (fun j x u hx hu => .f _ _ (hc j x u hx (by simpa [Value.cells] using hu)).1)
  ·simpa using this
  ·obtain ⟨j, hj⟩ := List.getElem?_of_mem hu
   have hj1 : j < xs.length := by
    rw [hl]; exact (List.getElem?_eq_some_iff.1 (by simpa [Value.cells] using hj)).1
   exact (hc j _ u (List.getElem?_eq_getElem hj1) (by simpa [Value.cells] using hj)).2
 ·have hns : ∀ fs n b z, T t ≠ some ⟨.struct fs, n, b, z⟩ := fun fs n b z e => hst ⟨fs, n, b, z, e⟩
  obtain ⟨x, rfl⟩ := hx.one hns
  have hv : v.cells.toList = [v] := by
   cases m with
   | zero => exact hx.elim
   | succ m =>
    unfold supB at hs
    split at hs
    ·rename_i ht; obtain ⟨q, rfl⟩ := okWide_int (hT _ _ ht).kind hval; rfl
    ·rename_i ht; obtain ⟨q, rfl⟩ := okWide_bool (hT _ _ ht).kind hval; rfl
    ·rename_i ht; obtain ⟨q, rfl⟩ := okWide_string (hT _ _ ht).kind hval; rfl
    ·rename_i ht; obtain ⟨_, _, _, rfl⟩ := okWide_slice (hT _ _ ht).kind hval; rfl
    ·rename_i ht; exact absurd ht (hns _ _ _ _)
    ·cases hs
  refine ⟨x, ?_, .f _ _ (hc 0 x v rfl (by rw [hv]; rfl)).1⟩
  unfold ShapeV
  split
  ·rename_i ht; exact absurd ht (hns _ _ _ _)
  ·exact hx
theorem open_args (hT : Zg P T) {m : Nat} {r : Reach} {b0 : Nat} : ∀ (ts : List Nat) (vs : List Value) (ds : List (DataW H)) (p : List MemPlace), ts.all (supB T m) = true → DataW.TrodAll enc P W 0 (fun _ => true) true ts vs ds p →
  (∀ (j : Nat) t v, ts[j]? = some t → vs[j]? = some v → Value.okWide P W r b0 t v) → (DataW.weightsEach P ts ds).all (· ≤ reachBytes) = true →
  ∃ xs, ShapeA T m ts xs ∧ xs.length = vs.length ∧ ∀ (j : Nat) (x : AV) (u : Value), xs[j]? = some x → vs[j]? = some u → RepV (fun _ => none) (Old W) W x u
 | [], vs, ds, p, hs, h, hval, hw => by
  cases vs with
  | nil => exact ⟨[], rfl, rfl, fun j x u hx => by simp at hx⟩
  | cons v vs => simp [DataW.TrodAll] at h
 | t :: ts, vs, ds, p, hs, h, hval, hw => by
  obtain ⟨v, vs', d, ds', p1, q, rfl, rfl, rfl, h1, h2⟩ := trodAll_cons h
  simp only [List.all_cons, Bool.and_eq_true] at hs
  simp only [DataW.weightsEach, List.all_append, Bool.and_eq_true] at hw
  obtain ⟨x, hx, hr⟩ := open_arg hT hs.1 (hval 0 t v rfl rfl) h1 hw.1
  obtain ⟨xs, hxs, hl, hrs⟩ := open_args hT ts vs' ds' q hs.2 h2 (fun j t' v' a b => hval (j + 1) t' v' (by simpa using a) (by simpa using b)) hw.2
  refine ⟨x :: xs, ⟨x, xs, rfl, hx, hxs⟩, by simp [hl], fun j y u hy hu => ?_⟩
  cases j with
  | zero => simp at hy hu; subst hy hu; exact hr
  | succ j => exact hrs j y u (by simpa using hy) (by simpa using hu)
theorem below_trodAll (hl : laidOutB P = true) {W' : World} (hb : Below W.heap.size W W') : ∀ (ts : List Nat) (vs : List Value) (ds : List (DataW H)) (p : List MemPlace), ts.all (fun t => P.readableRec t && decide (t < P.types.size)) = true → DataW.TrodAll enc P W 0 (fun _ => true) true ts vs ds p →
  DataW.TrodAll enc P W' 0 (fun b => decide (b < W.heap.size)) true ts vs ds p
 | [], vs, ds, p, hs, h => by
  cases vs <;> cases ds <;> simp [DataW.TrodAll] at h ⊢
  exact h
 | t :: ts, vs, ds, p, hs, h => by
  obtain ⟨v, vs', d, ds', p1, q, rfl, rfl, rfl, h1, h2⟩ := trodAll_cons h
  simp only [List.all_cons, Bool.and_eq_true, decide_eq_true_eq] at hs
  refine ⟨p1, q, Below.trod hl hs.1.1 hs.1.2 h1 hb (fun x hx => ?_), below_trodAll hl hb ts vs' ds' q (by simpa using hs.2) h2, rfl⟩
  obtain ⟨n, hn⟩ := h1
  exact DataW.trod_lt n _ _ _ hn x hx
theorem law_calls (hlay : Lays (Old W) W) (hT : Zg P T) (hl : laidOutB P = true) {m f : Nat} {ts : List Nat} (law : ∀ xs, ShapeA T m ts xs → FPure P f xs (.v (.bool true))) (hs : ts.all (supB T m) = true) (hr : ts.all (fun t => P.readableRec t && decide (t < P.types.size)) = true)
  {vs : List Value} {ds : List (DataW H)} {p : List MemPlace} {r : Reach} {b0 : Nat} (h : DataW.TrodAll enc P W 0 (fun _ => true) true ts vs ds p) (hval : ∀ (j : Nat) t v, ts[j]? = some t → vs[j]? = some v → Value.okWide P W r b0 t v)
  (hw : (DataW.weightsEach P ts ds).all (· ≤ reachBytes) = true) : Calls P f vs.toArray W fun e W' => e = .returned (.bool true) ∧ Below W.heap.size W W' ∧ DataW.TrodAll enc P W' 0 (fun b => decide (b < W.heap.size)) true ts vs ds p := by
 obtain ⟨xs, hx, hlen, hrep⟩ := open_args hT ts vs ds p hs h hval hw
 have hrep0 : HRep (fun _ => none) (Old W) W [] :=
  ⟨fun id ob ho => by simp at ho, fun _ _ => rfl, fun id id' g h1 => (by obtain ⟨_, h1, _⟩ := h1; cases h1), fun id g h1 => (by obtain ⟨_, h1, _⟩ := h1; cases h1), fun b hb => hb, hlay⟩
 refine (law xs hx (fun _ => none) (Old W) W vs hrep0 hlen hrep).mono ?_
 rintro e W' ⟨ret, h', σ', F', rv, ⟨rfl, rfl⟩, rfl, h1, h2, h3, h4, h5, h6, h7⟩
 have hb : Below W.heap.size W W' := ⟨h3.os, h3.tape, h3.output, h3.size, fun k hk => h3.block k hk (fun ⟨id, k, h, _⟩ => by cases h)⟩
 exact ⟨by rw [RepV.val h1], hb, below_trodAll hl hb ts vs ds p hr h⟩
end
end Go.Proofs.YtahlodpolggeiaaGreatDoor.Eng
