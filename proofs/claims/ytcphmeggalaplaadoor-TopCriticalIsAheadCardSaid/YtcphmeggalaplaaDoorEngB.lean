/-
  An abstract-state layer over the kit's wp, second part: code, loops, drawn regions, contracts, a law's row. No condition; nothing here is trusted.
-/
import Derived.Test.YtcphmeggalaplaaDoorEngA
import Derived.StillTail
import Derived.OrdersHeld
import Derived.Laws.StructEq
import Derived.Carry
import Derived.MapKept
import Derived.Sort.Grow
import Derived.ChangeArms
import Derived.ChangeOld
import Derived.SizedLaws
import Derived.DataReads
import Derived.WalkKit
import Derived.ProofKit
import Derived.OpenShut
import Derived.ShutString
import Derived.Below
set_option linter.unusedVariables false
set_option linter.unusedSimpArgs false
namespace Go.Proofs.YtcphmeggalaplaaDoor.Eng
open Go Go.RowKit
def lendM (h : List AObj) : AV → AV
 | .nm id k => match k, h[id]? with
  | [], some (.mapo es) => .mp es
  | _, _ => .nm id k
 | x => x
def Z1i (h : List AObj) : AV → AV
 | .own id sz off len => match h[id]? with
  | some (.row _ rs es) => if sz = rs then .ro sz ((es.drop off).take len) else .any
  | _ => .any
 | .ptr id i sz j => match h[id]? with
  | some (.row _ rs es) => if sz = rs then .rp ((getRow es i).drop j) else .any
  | some (.box _ cs) => if i = 0 ∧ (cs.map (AV.sub (lendM h))).all AV.flat = true then .rp ((cs.map (AV.sub (lendM h))).drop j) else .any
  | _ => .any
 | .nm id k => match k, h[id]? with
  | [], some (.mapo es) => .mp es
  | _, _ => .any
 | x => x
mutual
def AV.plain : AV → Bool
 | .any | .v _ => true
 | .tup cs => AV.plainL cs
 | .agg cs => AV.plainL cs
 | _ => false
def AV.plainL : List AV → Bool
 | [] => true
 | x :: r => x.plain && AV.plainL r
end
section
variable {P : Program} {T : Tab} {X : Ctx} {σ σ' : Nat → Option Blk} {F F' : Nat → Prop} {s s' : St} {a : Act} {w w' : World} {o : Oper} {c : Prop} {x : AV} {v : Value} {K : St → Prop}
theorem AV.plainL_get : ∀ {l : List AV} {j : Nat} {x : AV}, AV.plainL l = true → l[j]? = some x → x.plain = true
 | y :: r, 0, x, h, hx => by simp at hx; subst hx; simp only [AV.plainL, Bool.and_eq_true] at h; exact h.1
 | y :: r, j + 1, x, h, hx => by simp only [AV.plainL, Bool.and_eq_true] at h; exact AV.plainL_get h.2 (by simpa using hx)
theorem RepV.plain (h : RepV σ F w x v) : x.plain = true → RepV σ' F' w' x v := by
 induction h with
 | f x y h =>
  intro hp
  cases h with
  | any => exact .f _ _ (.any _)
  | v => exact .f _ _ (.v _)
  | _ => simp [AV.plain] at hp
 | agg cs vs hl h1 h ih =>
  intro hp
  simp only [AV.plain] at hp
  exact .agg _ _ hl h1 (fun j x u hx hu => ih j x u hx hu (AV.plainL_get hp hx))
 | tup cs vs hl h ih =>
  intro hp
  simp only [AV.plain] at hp
  exact .tup _ _ hl (fun j x u hx hu => ih j x u hx hu (AV.plainL_get hp hx))
 | _ => intro hp; simp [AV.plain] at hp
def Zgq (σ : Nat → Option Blk) (F : Nat → Prop) (b : Nat) : Prop := F b ∨ ∃ id, hasB σ id b
theorem RepF.lent (h : RepF F w x v) : RepF (Zgq σ F) w x v := h.mono (fun _ h => .inl h) (fun _ _ => rfl)
theorem RepV.nmv {id : Nat} {k : List Nat} (h : RepV σ F w (.nm id k) v) : ∃ gs V, σ id = some (.ext gs V) ∧ v = V k := by
 cases h with
 | f _ _ h => cases h
 | nm _ _ gs V h _ => exact ⟨gs, V, h, rfl⟩
theorem RepV.lendM {h : List AObj} (hr : HRep σ F w h) (hv : RepV σ F w x v) : RepV σ (Zgq σ F) w (x.sub (lendM h)) v := by
 refine hv.sub (fun _ _ h => h.lent) ?_ ?_ ?_
 ·intro id sz off len y hy
  exact hy.mono (fun _ h => .inl h) (fun _ _ => rfl)
 ·intro id q sz j y hy
  exact hy.mono (fun _ h => .inl h) (fun _ _ => rfl)
 ·intro id k y hy
  simp only [Eng.lendM]
  split
  ·rename_i es hq
   obtain ⟨g, arr, clock, h1, h2, h3⟩ := hr.obj id _ hq
   obtain ⟨gs, V, h4, h5⟩ := RepV.nmv hy
   rw [h1] at h4
   cases h4
   rw [h5]
   exact .f _ _ (.mp es g arr clock (.inr ⟨id, _, h1, rfl⟩) h2 h3)
  ·exact hy.mono (fun _ h => .inl h) (fun _ _ => rfl)
theorem RepV.borrow {h : List AObj} (hr : HRep σ F w h) (hv : RepV σ F w x v) : RepV (fun _ => none) (Zgq σ F) w (x.sub (Z1i h)) v := by
 refine hv.sub (fun _ _ h => h.lent) ?_ ?_ ?_
 ·intro id sz off len y hy
  simp only [Z1i]
  split
  ·rename_i e rs es hq
   have hob := hr.obj id _ hq
   by_cases hsz : sz = rs
   ·subst hsz
    rw [if_pos rfl]
    rcases RepV.ownv hy with ⟨h1, rfl, rfl, rfl⟩ | ⟨g, b, c, n, h1, hn, hc, hy⟩
    ·simpa using RepV.f _ _ (.nil0 sz 0 none)
    ·obtain ⟨rfl, h2, h3, V, hV⟩ := Z36 hob h1
     rcases Nat.eq_zero_or_pos len with h0 | h0
     ·subst h0
      rw [List.take_zero]
      rcases hy with rfl | ⟨_, _, _, A, rfl⟩
      ·exact .f _ _ (.nil0 _ _ _)
      ·exact .f _ _ (.nil0 _ _ _)
     ·rcases hy with rfl | ⟨h4, _⟩
      ·have hl : ((es.drop off).take len).length = len := by simp; omega
       have hget : ∀ q cs, ((es.drop off).take len)[q]? = some cs → es[off + q]? = some cs := fun q cs hq => by
        rw [List.getElem?_take] at hq
        split at hq
        ·rwa [List.getElem?_drop] at hq
        ·cases hq
       refine .f _ _ (.ro _ _ _ _ _ (fun q j => V (off + q) j) hl (by omega) (.inr ⟨_, .at h1⟩) (fun cs hcs => h3 cs (List.mem_of_mem_drop (List.mem_of_mem_take hcs))) (fun q cs j x hq hj => ?_) (fun q cs j x hq hj => ?_))
       ·obtain ⟨h5, h6, _⟩ := hV _ cs j x (hget q cs hq) hj
        refine ⟨?_, h6⟩
        rw [Zp, ← Nat.add_assoc, ← Nat.add_mul, Nat.add_assoc]
        exact h5
       ·exact (hV _ cs j x (hget q cs hq) hj).2.2.lent
      ·omega
   ·rw [if_neg hsz]; exact .f _ _ (.any _)
  ·exact .f _ _ (.any _)
 ·intro id q sz j y hy
  simp only [Z1i]
  obtain ⟨g, b, c, n, h1, rfl⟩ := RepV.ptrv hy
  split
  ·rename_i e rs es hq
   have hob := hr.obj id _ hq
   by_cases hsz : sz = rs
   ·subst hsz
    rw [if_pos rfl]
    obtain ⟨rfl, h2, h3, V, hV⟩ := Z36 hob h1
    have hget : ∀ k x, ((getRow es q).drop j)[k]? = some x → ∃ cs, es[q]? = some cs ∧ cs[j + k]? = some x := fun k x hk => by
     rw [List.getElem?_drop] at hk
     unfold getRow at hk
     cases he : es[q]? with
     | none => rw [he] at hk; simp at hk
     | some cs => rw [he] at hk; exact ⟨cs, rfl, hk⟩
    refine .f _ _ (.rp _ _ (fun k => V q (j + k)) (.inr ⟨_, .at h1⟩) (fun k x hk => ?_) (fun k x hk => ?_))
    ·obtain ⟨cs, h4, h5⟩ := hget k x hk
     obtain ⟨h6, h7, _⟩ := hV q cs _ x h4 h5
     refine ⟨?_, h7⟩
     rw [Zp, Nat.add_assoc]
     exact h6
    ·obtain ⟨cs, h4, h5⟩ := hget k x hk
     exact (hV q cs _ x h4 h5).2.2.lent
   ·rw [if_neg hsz]; exact .f _ _ (.any _)
  ·rename_i e cs hq
   split
   ·rename_i hc
    obtain ⟨rfl, hfl⟩ := hc
    obtain ⟨V, hV⟩ := Zbz (s := ⟨[], h⟩) hr h1 (k := 0) (sz := sz) (by simp only [hq, Z10])
    simp only [hq, Z10] at hV
    refine .f _ _ (.rp _ _ (fun k => V (j + k)) (.inr ⟨_, .at h1⟩) (fun k x hk => ?_) (fun k x hk => ?_))
    ·rw [List.getElem?_drop, List.getElem?_map, Option.map_eq_some_iff] at hk
     obtain ⟨x, hk, rfl⟩ := hk
     obtain ⟨h5, h6, _⟩ := hV _ x hk
     refine ⟨?_, h6⟩
     rw [Zp, Nat.add_assoc]
     exact h5
    ·rw [List.getElem?_drop] at hk
     have hfx := List.all_eq_true.1 hfl _ (List.mem_of_getElem? hk)
     rw [List.getElem?_map, Option.map_eq_some_iff] at hk
     obtain ⟨x, hk, rfl⟩ := hk
     exact ((hV _ x hk).2.2.lendM hr).toF hfx
   ·exact .f _ _ (.any _)
  ·exact .f _ _ (.any _)
 ·intro id k y hy
  simp only [Z1i]
  split
  ·rename_i es hq
   obtain ⟨g, arr, clock, h1, h2, h3⟩ := hr.obj id _ hq
   obtain ⟨gs, V, h4, h5⟩ := RepV.nmv hy
   rw [h1] at h4
   cases h4
   rw [h5]
   exact .f _ _ (.mp es g arr clock (.inr ⟨id, _, h1, rfl⟩) h2 h3)
  ·exact .f _ _ (.any _)
theorem Zh5 {h : List AObj} (hr : HRep σ F w h) : HRep (fun _ => none) (Zgq σ F) w [] := by
 refine ⟨fun id ob ho => by simp at ho, fun _ _ => rfl, fun id id' g h1 => (by obtain ⟨_, h1, _⟩ := h1; cases h1), fun id g h1 => (by obtain ⟨_, h1, _⟩ := h1; cases h1), fun b hb => ?_, hr.lay.mono (fun _ h => .inl h) (fun _ _ => rfl)⟩
 rcases hb with hb | ⟨id, hs⟩
 ·exact hr.flt b hb
 ·exact (hr.lt id b hs).1
theorem op_lent {fop : Operand} {ar : Array Operand} {ts : Array Nat} (ho : o.op = .call { callee := .value fop, args := ar, argTypes := ts }) {f : Nat} {caps : List AV} (hf : s.ev fop = .fn f caps) (hE : Enters P f) {R : AV}
  (spec : FSpec P f [] ((ar.toList.map s.ev ++ caps).map (AV.sub (Z1i s.heap))) (fun r h => r = R ∧ h = [])) (hp : R.plain = true) (hd : dOK X.n o.dst) (hK : K (St.put s o.dst R)) : opWPG P X o K s := by
 rintro Qc next a w hn ⟨σ, F, hr⟩
 obtain ⟨us, hfv, hul, hur⟩ := RepV.fnv (hf ▸ hr.ev fop)
 let vs : List Value := ar.toList.map a.eval ++ us
 have hl : ((ar.toList.map s.ev ++ caps).map (AV.sub (Z1i s.heap))).length = vs.length := by simp [vs, hul]
 have hrep : ∀ (j : Nat) (x : AV) (u : Value), ((ar.toList.map s.ev ++ caps).map (AV.sub (Z1i s.heap)))[j]? = some x → vs[j]? = some u → RepV (fun _ => none) (Zgq σ F) w x u := fun j x u hx hu => by
  rw [List.getElem?_map, Option.map_eq_some_iff] at hx
  obtain ⟨y, hy, rfl⟩ := hx
  refine RepV.borrow hr.heap ?_
  rcases Nat.lt_or_ge j ar.toList.length with h1 | h1
  ·rw [List.getElem?_append_left (by simpa using h1), List.getElem?_map, List.getElem?_eq_getElem h1] at hy
   simp only [vs] at hu
   rw [List.getElem?_append_left (by simpa using h1), List.getElem?_map, List.getElem?_eq_getElem h1] at hu
   injection hu with hu
   injection hy with hy
   rw [← hu, ← hy]
   exact hr.ev _
  ·rw [List.getElem?_append_right (by simpa using h1), List.length_map] at hy
   simp only [vs] at hu
   rw [List.getElem?_append_right (by simpa using h1), List.length_map] at hu
   exact hur _ _ _ hy hu
 have hcall := spec _ _ w vs (Zh5 hr.heap) hl hrep
 have hrun : (execOp a.eval o).run P w = .ok (.enter f vs.toArray) w := by
  have hva : ar.map a.eval ++ us.toArray = vs.toArray := by
   apply Array.ext'
   simp [vs]
  simp [execOp, ho, resolve, hfv, Deferred.ofValue, invoke, hva, hE vs.toArray w]
 unfold Oper.wp
 rw [hrun]
 show Calls P f vs.toArray w _
 refine hcall.mono ?_
 rintro e w' ⟨ret, h', σ', F', rv, ⟨rfl, rfl⟩, rfl, h1, h2, h3, h4, h5, h6, h7⟩
 have hk : Ext w w' := ⟨h3.os, h3.tape, h3.output, h3.size, fun b hb _ => h3.block b hb (fun ⟨id, k, h, _⟩ => by cases h)⟩
 exact hn _ _ _ hK ⟨σ, F, (hr.ext hk).put hd (h1.plain hp)⟩ ⟨hk.size, fun b hb => hk.block b hb (fun h => h)⟩
end
end Go.Proofs.YtcphmeggalaplaaDoor.Eng
set_option linter.unusedVariables false
set_option linter.unusedSimpArgs false
namespace Go.Proofs.YtcphmeggalaplaaDoor.Eng
open Go Go.RowKit
mutual
def AV.ids : AV → List Nat
 | .own id _ _ _ => [id]
 | .ptr id _ _ _ => [id]
 | .nm id _ => [id]
 | .agg cs => AV.idsL cs
 | .any | .v _ | .ro .. | .rp _ | .tup _ | .fn .. | .mp _ | .mq _ => []
def AV.idsL : List AV → List Nat
 | [] => []
 | x :: r => x.ids ++ AV.idsL r
end
def freezeAll (s : St) : List Nat → St
 | [] => s
 | id :: r => freezeAll (s.freeze id) r
section
variable {P : Program} {T : Tab} {X : Ctx} {σ σ' : Nat → Option Blk} {F F' : Nat → Prop} {s s' : St} {a : Act} {w w' : World} {o : Oper} {c : Prop} {x : AV} {v : Value} {K K' : St → Prop}
theorem Rep.freezeAll : ∀ (ids : List Nat) (s : St), Rep X s a w → Rep X (Eng.freezeAll s ids) a w
 | [], s, h => h
 | id :: r, s, h => Rep.freezeAll r _ (Rep.freeze h id)
theorem opWP.from (h : ∀ a w, Rep X s a w → Rep X s' a w) (k : opWP P X o K s') : opWP P X o K s := fun Qc next a w hn hr => k Qc next a w hn (h a w hr)
theorem opWP.mono (k : opWP P X o K s) (h : ∀ s, K s → K' s) : opWP P X o K' s := fun Qc next a w hn hr => k Qc next a w (fun s a w h1 h2 => hn s a w (h s h1) h2) hr
theorem op_pick {cnd p q : Operand} (ho : o.op = .pick cnd p q) {t : Bool} (hc : s.ev cnd = .v (.bool t)) (hd : dOK X.n o.dst) (h1 : t = true → K (s.put o.dst (s.ev p))) (h2 : t = false → K (s.put o.dst (s.ev q))) : opWP P X o K s := by
 rintro Qc next a w hn ⟨σ, F, hr⟩
 have hv : a.eval cnd = .bool t := RepV.val (hc ▸ hr.ev cnd)
 unfold Oper.wp
 cases t with
 | true =>
  have : (execOp a.eval o).run P w = .ok (.value (a.eval p)) w := by simp [execOp, ho, hv, asBool]
  rw [this]
  exact hn _ _ _ (h1 rfl) ⟨σ, F, hr.put hd (hr.ev p)⟩
 | false =>
  have : (execOp a.eval o).run P w = .ok (.value (a.eval q)) w := by simp [execOp, ho, hv, asBool]
  rw [this]
  exact hn _ _ _ (h2 rfl) ⟨σ, F, hr.put hd (hr.ev q)⟩
def Z9x (x : AV) : Option (Prop × Prop) :=
 match x with
 | .ro _ es => some (es ≠ [], es = [])
 | .own _ _ _ len => some (len ≠ 0, len = 0)
 | _ => none
theorem Z40 {t e : Nat} (hk : P.underlying t = some (.slice e)) (A : Option Addr) (n c : Nat) : (Op.equal t (.slice A n c) (.slice none 0 0)).run P w = .ok A.isNone w := by
 have h : ∀ d, (Op.equalIn (d + 1) t (.slice A n c) (.slice none 0 0)).run P w = .ok A.isNone w := fun d => by
  cases A <;> simp [Op.equalIn, run_underlying hk]
 exact h 9999
theorem Zis {t t' e : Nat} {y z : Operand} {op : BinOp} (hop : op = .eql ∨ op = .neq) (ho : o.op = .binOp op t y z t') (hT : Zf P T) {m p : Nat} {zv : Value} (ht : T t = some ⟨.slice e, m, p, zv⟩) (hz : s.ev z = .v (.slice none 0 0)) {c1 c2 : Prop} (hy : Z9x (s.ev y) = some (c1, c2)) (hd : dOK X.n o.dst)
  (h1 : c1 → K (s.put o.dst (.v (.bool (decide (op = .neq)))))) (h2 : c2 → ∀ b, K (s.put o.dst (.v (.bool b)))) : opWP P X o K s := by
 rintro Qc next a w hn ⟨σ, F, hr⟩
 have hu : P.underlying t = some (.slice e) := (hT _ _ ht).kind
 have hvz : a.eval z = .slice none 0 0 := RepV.val (hz ▸ hr.ev z)
 have key : ∃ A n c, a.eval y = .slice A n c ∧ (c1 → A.isNone = false) ∧ (¬ c1 → c2) := by
  unfold Z9x at hy
  split at hy
  ·rename_i sz es he
   cases hy
   obtain ⟨A, c, hv, _, hx⟩ := RepV.rov (he ▸ hr.ev y)
   exact ⟨A, _, c, hv, fun hne => by obtain ⟨ad, _, rfl, _⟩ := hx hne; rfl, fun h => Classical.not_not.1 h⟩
  ·rename_i id sz off len he
   cases hy
   rcases RepV.ownv (he ▸ hr.ev y) with ⟨_, _, rfl, hv⟩ | ⟨g, b, cp, n, _, _, _, hv | ⟨rfl, _, _, A, hv⟩⟩
   ·exact ⟨_, _, _, hv, fun h => absurd rfl h, fun _ => rfl⟩
   ·exact ⟨_, _, _, hv, fun _ => rfl, fun h => Classical.not_not.1 h⟩
   ·exact ⟨_, _, _, hv, fun h => absurd rfl h, fun _ => rfl⟩
  ·cases hy
 obtain ⟨A, n, cp, hvy, h3, h4⟩ := key
 have hrun : (execOp a.eval o).run P w = .ok (.value (.bool (A.isNone != decide (op = .neq)))) w := by
  rcases hop with rfl | rfl
  ·simp only [execOp, ho, hvy, hvz, eqGuard, binOp, Sem.run_bind, Z40 hu, Result.andThen_ok, Sem.run_pure]
   simp
  ·simp only [execOp, ho, hvy, hvz, eqGuard, binOp, Sem.run_bind, Z40 hu, Result.andThen_ok, Sem.run_pure]
   simp
 unfold Oper.wp
 rw [hrun]
 by_cases hc : c1
 ·rw [h3 hc]
  have : (false != decide (op = .neq)) = decide (op = .neq) := by simp
  rw [this]
  exact hn _ _ _ (h1 hc) ⟨σ, F, hr.put hd (.f _ _ (.v _))⟩
 ·exact hn _ _ _ (h2 (h4 hc) _) ⟨σ, F, hr.put hd (.f _ _ (.v _))⟩
end
@[irreducible] def OWED (P : Program) (X : Ctx) (o : Oper) (K : St → Prop) (s : St) : Prop := opWP P X o K s
theorem OWED.intro {P : Program} {X : Ctx} {o : Oper} {K : St → Prop} {s : St} (h : opWP P X o K s) : OWED P X o K s := by unfold OWED; exact h
def useVal (r : Option (Prop × AV)) (k : Prop → AV → Prop) (e : Unit → Prop) : Prop := match r with
 | some (c, x) => k c x
 | none => e ()
def useMem (r : Option (Prop × St × AV)) (k : Prop → St → AV → Prop) (e : Unit → Prop) : Prop := match r with
 | some (c, s, x) => k c s x
 | none => e ()
def Zd6 (x : AV) (k : Bool → Prop) : Prop := match x with
 | .v (.bool b) => k b
 | _ => False
def useNil (r : Option (Prop × Prop × Bool)) (k : Prop → Prop → Bool → Prop) (e : Unit → Prop) : Prop := match r with
 | some (c1, c2, b) => k c1 c2 b
 | none => e ()
def Zj7 (T : Tab) (m : Nat) (t t' : Nat) (yz : AV × AV) (s : St) : Option (Prop × St × AV) :=
 match T t with
 | some ⟨.slice e, _, _, _⟩ => match T e with
  | some ti => match Z1z s ti.size yz.2 with
   | some (c, news) => match yz.1 with
    | .v (.slice none 0 0) => some (c ∧ (match T t' with | some ⟨.slice _, _, _, _⟩ => True | some ⟨.str, _, _, _⟩ => True | _ => False) ∧ 0 < ti.size ∧ 0 < ti.bytes ∧ news.length * ti.bytes ≤ 140737488355328,
      St.appended ⟨s.env, s.heap ++ [.row e ti.size []]⟩ s.heap.length (.row e ti.size news), .own s.heap.length ti.size 0 news.length)
    | .own id sz off len => match s.heap[id]? with
     | some (.row e' rs es) => some (c ∧ (match T t' with | some ⟨.slice _, _, _, _⟩ => True | some ⟨.str, _, _, _⟩ => True | _ => False) ∧ 0 < ti.size ∧ 0 < ti.bytes ∧ e' = e ∧ rs = ti.size ∧ sz = ti.size ∧ off + len = es.length ∧ m ≤ id ∧ (len + news.length) * ti.bytes ≤ 140737488355328,
       s.appended id (.row e ti.size (es.drop off ++ news)), .own id ti.size 0 (len + news.length))
     | _ => none
    | _ => none
   | none => none
  | none => none
 | _ => none
abbrev Book := Nat → List AV → Option (Prop × AV)
def exCall (s : St) (f : Nat) (caps : List AV) (fop : Operand) (args : List Operand) : Option (Prop × AV) → Option (Prop × St × AV)
 | some (c, R) => if R.plain then some (c, s, R) else match caps with
  | [] => let s1 := freezeAll s (AV.idsL (args.map s.ev))
   some (s1.ev fop = .fn f [] ∧ (args.map s1.ev).map (AV.sub (Z1t [])) = (args.map s.ev ++ []).map (AV.sub (Z1i s.heap)) ∧ c, s1, R.sub (Z24 [] s1.heap.length))
  | _ => none
 | none => none
def exMem (T : Tab) (B : Book) (m : Nat) (s : St) (o : Oper) : Option (Prop × St × AV) :=
 match o.op with
 | .alloc e => match T e with
  | some i => some (True, ⟨s.env, s.heap ++ [.box e (i.zero.cells.toList.map .v)]⟩, .ptr s.heap.length 0 i.size 0)
  | none => none
 | .box e y => some ((s.ev y).full = true, ⟨s.env, s.heap ++ [.box e (cellsOf (s.ev y))]⟩, .ptr s.heap.length 0 0 0)
 | .build t parts => match T t with
  | some ⟨.struct fs, _, _, z⟩ => match Z2s T fs with
   | some pl => match Z5r pl (z.cells.toList.map .v) (parts.toList.map fun q => (q.1, s.ev q.2)) with
    | some (c, cs) => some (c, s, .agg cs)
    | none => none
   | none => none
  | _ => none
 | .buildSlice t len parts => match T t with
  | some ⟨.slice e, _, _, _⟩ => match T e with
   | some i => let s1 := freezeAll s (AV.idsL (parts.toList.map fun q => s.ev q.2))
    some (parts.toList.map (·.1) = List.range len ∧ rowOK i.size (parts.toList.map fun q => s1.ev q.2) ∧ 0 < i.size ∧ len * i.size ≤ 16777216,
    ⟨s1.env, s1.heap ++ [.row e i.size (parts.toList.map fun q => cellsOf (s1.ev q.2))]⟩, .own s1.heap.length i.size 0 len)
   | none => none
  | _ => none
 | .makeSlice t y z => match T t, s.ev y, s.ev z with
  | some ⟨.slice e, _, _, _⟩, .v (.int _ q), .v (.int _ q') => match T e with
   | some i => some (q = q' ∧ 0 ≤ q ∧ q * i.bytes ≤ 140737488355328 ∧ 0 < i.bytes ∧ 0 < i.size, ⟨s.env, s.heap ++ [.row e i.size (List.replicate q.toNat (i.zero.cells.toList.map .v))]⟩, .own s.heap.length i.size 0 q.toNat)
   | none => none
  | _, _, _ => none
 | .store t y z => match T t, s.ev y with
  | some i, .ptr id k sz j => match s.heap[id]? with
   | some (.box e cs) => some (k = 0 ∧ (s.ev z).full = true ∧ (cellsOf (s.ev z)).length = i.size ∧ j + i.size ≤ cs.length, ⟨s.env, s.heap.set id (.box e (putA cs j (cellsOf (s.ev z))))⟩, .any)
   | some (.row e rs es) => let s1 := freezeAll s (s.ev z).ids
    some (rs = sz ∧ k < es.length ∧ s1.heap[id]? = some (.row e rs es) ∧ s1.ev y = .ptr id k sz j ∧ (s1.ev z).full = true ∧ (cellsOf (s1.ev z)).all AV.flat = true ∧ (cellsOf (s1.ev z)).length = i.size ∧ j + i.size ≤ sz,
    ⟨s1.env, s1.heap.set id (.row e sz (es.set k (putA (getRow es k) j (cellsOf (s1.ev z)))))⟩, .any)
   | _ => none
  | _, _ => none
 | .call { callee := .builtin .append, args := args, argTypes := ts } => match args.toList, ts.toList with
  | [y, z], [t, t'] => Zj7 T m t t' (s.ev y, s.ev z) s
  | _, _ => none
 | .call { callee := .value fop, args := args, .. } => match s.ev fop with
  | .fn f caps => exCall s f caps fop args.toList (B f ((args.toList.map s.ev ++ caps).map (AV.sub (Z1i s.heap))))
  | _ => none
 | _ => none
def eqOp (op : BinOp) : Option Bool := if op = .eql then some false else if op = .neq then some true else none
def exNil (T : Tab) (s : St) (op : BinOp) (t : Nat) (y z : Operand) : Option (Prop × Prop × Bool) :=
 match T t, s.ev z, Z9x (s.ev y), eqOp op with
 | some ⟨.slice _, _, _, _⟩, .v (.slice none 0 0), some (c1, c2), some b => some (c1, c2, b)
 | _, _, _, _ => none
def kVal (n : Nat) (o : Oper) (K : St → Prop) (s : St) (c : Prop) (x : AV) : Prop := dOK n o.dst ∧ c ∧ K (s.put o.dst x)
def kMem (n : Nat) (o : Oper) (K : St → Prop) (c : Prop) (s1 : St) (x : AV) : Prop := dOK n o.dst ∧ c ∧ K (s1.put o.dst x)
def kPick (n : Nat) (o : Oper) (K : St → Prop) (s : St) (p q : Operand) (t : Bool) : Prop := dOK n o.dst ∧ (t = true → K (s.put o.dst (s.ev p))) ∧ (t = false → K (s.put o.dst (s.ev q)))
def kNil (n : Nat) (o : Oper) (K : St → Prop) (s : St) (c1 c2 : Prop) (b : Bool) : Prop := dOK n o.dst ∧ (c1 → K (s.put o.dst (.v (.bool b)))) ∧ (c2 → ∀ b, K (s.put o.dst (.v (.bool b))))
def eOwed (P : Program) (X : Ctx) (o : Oper) (K : St → Prop) (s : St) (_ : Unit) : Prop := OWED P X o K s
def eVal (P : Program) (T : Tab) (B : Book) (X : Ctx) (n m : Nat) (o : Oper) (K : St → Prop) (s : St) (_ : Unit) : Prop := match o.op with
 | .pick cnd p q => Zd6 (s.ev cnd) (kPick n o K s p q)
 | .binOp op t y z _ => useNil (exNil T s op t y z) (kNil n o K s) (eOwed P X o K s)
 | _ => useMem (exMem T B m s o) (kMem n o K) (eOwed P X o K s)
def exOpB (P : Program) (T : Tab) (B : Book) (X : Ctx) (n m : Nat) (o : Oper) (K : St → Prop) (s : St) : Prop := useVal (Zi T s o.op) (kVal n o K s) (eVal P T B X n m o K s)
def exOp (P : Program) (T : Tab) (B : Book) (X : Ctx) (n m : Nat) (o : Oper) (K : St → Prop) (s : St) : Prop := exOpB P T B X n m o K s
section
variable {P : Program} {T : Tab} {X : Ctx} {σ σ' : Nat → Option Blk} {F F' : Nat → Prop} {s s' : St} {a : Act} {w w' : World} {o : Oper} {c : Prop} {x : AV} {v : Value} {K K' : St → Prop}
theorem Zjj (s : St) : s.back [] [] = s := by
 cases s with
 | mk env heap =>
  simp only [St.back, Z2y, List.drop_nil, List.map_nil, List.append_nil, idx]
  congr 1
  apply List.ext_getElem?
  intro i
  simp
theorem leL_refl : ∀ (l : List AV), AV.leL l l
 | [] => trivial
 | x :: r => ⟨.refl x, leL_refl r⟩
end
end Go.Proofs.YtcphmeggalaplaaDoor.Eng
set_option linter.unusedVariables false
set_option linter.unusedSimpArgs false
namespace Go.Proofs.YtcphmeggalaplaaDoor.Eng
open Go Go.RowKit
def nthDst : List Oper → Nat → Option Nat
 | [], _ => none
 | o :: _, 0 => o.dst
 | _ :: r, j + 1 => nthDst r j
theorem nthDst_eq : ∀ (l : List Oper) (j : Nat), nthDst l j = (l[j]?).bind (·.dst)
 | [], j => by simp [nthDst]
 | o :: r, 0 => by simp [nthDst]
 | o :: r, j + 1 => by simp [nthDst, nthDst_eq r j]
def kGuard (n : Nat) (o : Oper) (d : Nat) (want : Bool) (K1 K2 : St → Prop) (s : St) (b : Bool) : Prop :=
 d < n ∧ dOK n o.dst ∧ (b = want → K1 ⟨(d, .v (.bool want)) :: s.env, s.heap⟩) ∧ (b = !want → K2 (St.put ⟨(d, .v (.bool (!want))) :: s.env, s.heap⟩ o.dst .any))
def kCond (K1 K2 : St → Prop) (s : St) (t : Bool) : Prop := (t = true → K1 s) ∧ (t = false → K2 s)
def Zj6 (P : Program) (T : Tab) (B : Book) (X : Ctx) (n m : Nat) (ops : List Oper) : List Oper → (St → Prop) → St → Prop
 | [], K, s => K s
 | o :: r, K, s => match o.guard with
  | none => exOp P T B X n m o (Zj6 P T B X n m ops r K) s
  | some (j, want) => match nthDst ops j with
   | some d => Zd6 (envGet s.env d) (kGuard n o d want (exOp P T B X n m o (Zj6 P T B X n m ops r K)) (Zj6 P T B X n m ops r K) s)
   | none => False
@[irreducible] def LOOP (P : Program) (X : Ctx) (c : Code) (Q : Exit → St → Prop) (s : St) : Prop := WP P X c Q s
theorem LOOP.intro {P : Program} {X : Ctx} {c : Code} {Q : Exit → St → Prop} {s : St} (h : WP P X c Q s) : LOOP P X c Q s := by unfold LOOP; exact h
def ex (P : Program) (T : Tab) (B : Book) (X : Ctx) (n m : Nat) : Code → (Exit → St → Prop) → St → Prop
 | .skip, Q, s => Q .normal s
 | .region _ ops false, Q, s => Zj6 P T B X n m ops.toList ops.toList (Q .normal) s
 | .seq a b, Q, s => ex P T B X n m a (Zeq (ex P T B X n m b Q) Q) s
 | .cond c a b, Q, s => Zd6 (s.ev c) (kCond (ex P T B X n m a Q) (ex P T B X n m b Q) s)
 | .block id b, Q, s => ex P T B X n m b (Zef id Q) s
 | .exit id, Q, s => Q (.exit id) s
 | .ret, Q, s => Q .ret s
 | c, Q, s => LOOP P X c Q s
section
variable {P : Program} {T : Tab} {B : Book} {X : Ctx} {s : St}
theorem Rep.know {X : Ctx} {s : St} {a : Act} {w : World} {d : Nat} {b : Bool} (hd : envGet s.env d = .v (.bool b)) (hr : Rep X s a w) : Rep X ⟨(d, .v (.bool b)) :: s.env, s.heap⟩ a w := by
 obtain ⟨σ, F, hr⟩ := hr
 refine ⟨σ, F, hr.defers, hr.size, fun i => ?_, hr.heap, hr.keep, hr.own, hr.fnew, hr.stab, hr.hm⟩
 simp only [envGet]
 split
 ·rename_i e; subst e; rw [← hd]; exact hr.env i
 ·exact hr.env i
end
def Ret (T : Tab) (fn : Func) (m : Nat) (post : AV → List AObj → Prop) (s : St) : Prop :=
 match Z5c T s fn.results.toList with
 | some (c, xs) => c ∧ ∃ extra : List Nat, (List.range m ++ extra).Nodup ∧ (∀ i ∈ extra, i < s.heap.length) ∧ ∃ ret, AV.le ((retAV xs).sub (Z1t (List.range m ++ extra))) ret ∧ post ret (Z1n (List.range m ++ extra) s.heap)
 | none => False
def Qret (T : Tab) (fn : Func) (m : Nat) (post : AV → List AObj → Prop) : Exit → St → Prop
 | .normal, s => Ret T fn m post s
 | .ret, s => Ret T fn m post s
 | _, _ => False
def tabGet : List (Nat × TI) → Nat → Option TI
 | [], _ => none
 | (k, i) :: r, t => if t = k then some i else tabGet r t
theorem tabGet_mem : ∀ {l : List (Nat × TI)} {t : Nat} {i : TI}, tabGet l t = some i → (t, i) ∈ l
 | (k, j) :: r, t, i, h => by
  unfold tabGet at h
  split at h
  ·rename_i e; injection h with h; subst e h; exact List.mem_cons_self
  ·exact List.mem_cons_of_mem _ (tabGet_mem h)
theorem Zi9 {P : Program} {l : List (Nat × TI)} (h : ∀ p ∈ l, TIOk P p.1 p.2) : Zf P (tabGet l) := fun t i ht => h _ (tabGet_mem ht)
end Go.Proofs.YtcphmeggalaplaaDoor.Eng
set_option linter.unusedVariables false
set_option linter.unusedSimpArgs false
namespace Go.Proofs.YtcphmeggalaplaaDoor.Eng
open Go Go.RowKit
section
variable {P : Program} {ops : Array Oper} {Q : Exit → Act → World → Prop} {md : Region.Mode} {S : World → Prop}
def anyT (P : Program) (md : Region.Mode) (ops : Array Oper) (Q : Exit → Act → World → Prop) (n : Nat) (L : Array Bool → Act → World → Prop) : Nat → Array Bool → Act → World → (World → Prop) → Prop
 | 0, listed, a, w, _ => L listed a w
 | f + 1, listed, a, w, S =>
  Region.ready md ops listed ≠ [] ∧ ∀ i ∈ Region.ready md ops listed, i < n ∧ wpOp P ops Q i (fun a' w' => S w' ∧ anyT P md ops Q n L f (listed.setIfInBounds i true) a' w' S) a w
theorem Z8i {n : Nat} {L : Array Bool → Act → World → Prop} {S S' : World → Prop} (hS : ∀ w, S w → S' w) : ∀ (f : Nat) (listed : Array Bool) (a : Act) (w : World), anyT P md ops Q n L f listed a w S → anyT P md ops Q n L f listed a w S'
 | 0, _, _, _, h => h
 | f + 1, listed, a, w, h => ⟨h.1, fun i hi => ⟨(h.2 i hi).1, wpOp_mono (fun a' w' h' => ⟨hS _ h'.1, Z8i hS f _ a' w' h'.2⟩) (h.2 i hi).2⟩⟩
theorem Z5u {n g : Nat} {L : Array Bool → Act → World → Prop} {S : World → Prop} (hL : ∀ listed a w, L listed a w → wpAny P md ops Q g listed a w) :
  ∀ (f : Nat) (listed : Array Bool) (a : Act) (w : World), anyT P md ops Q n L f listed a w S → wpAny P md ops Q (f + g) listed a w
 | 0, listed, a, w, h => by rw [Nat.zero_add]; exact hL _ _ _ h
 | f + 1, listed, a, w, h => by
  rw [show f + 1 + g = (f + g) + 1 by omega]
  exact ⟨fun h0 => absurd h0 h.1, fun i hi => wpOp_mono (fun a' w' h' => Z5u hL f _ a' w' h'.2) (h.2 i hi).2⟩
def Z82 (md : Region.Mode) (ops : Array Oper) (n : Nat) : Bool := decide (n = ops.size) || (decide (n < ops.size) && Region.sinkB md ops n && Region.chainB md ops n)
theorem Z92 {n i : Nat} {listed : Array Bool} (h : Z82 md ops n = true) (inv : HeadInv md ops n listed) (hi : i < n) (hun : listed.getD i true = false) : ∀ j ∈ Region.ready md ops listed, j < n := by
 intro j hj
 simp only [Z82, Bool.or_eq_true, Bool.and_eq_true, decide_eq_true_eq] at h
 rcases h with h | ⟨⟨h1, h2⟩, h3⟩
 ·subst h
  obtain ⟨_, o, ho, _⟩ := mem_ready.1 hj
  exact (Array.getElem?_eq_some_iff.1 ho).1
 ·rcases Nat.lt_or_ge j n with h | h
  ·exact h
  ·exact absurd hj (tail_waits h2 h3 h1 inv _ i rfl hi hun j h)
theorem Z9a {n i : Nat} {oi : Oper} {v : Value} {L : Array Bool → Act → World → Prop} (hi : ops[i]? = some oi) (hsel : ∀ (j : Nat) (o : Oper) cs b, ops[j]? = some o → o.op ≠ .select cs b)
  (hh : Z82 md ops n = true) (hin : i < n) (hdone : ∀ listed a w, L listed a w → ∀ j ∈ Region.ready md ops listed, n ≤ j) (hQ : ∀ c a w, Q (.panic c) (a.put oi.dst v) w → Q (.panic c) a w) :
  ∀ (f : Nat) (listed : Array Bool) (a : Act) (w : World), HeadInv md ops n listed →
   (∀ j oj, ops[j]? = some oj → j ≠ i → listed.getD j true = false → (∀ e ∈ oj.after, Region.binds md e = true → e.on ≠ i) → oi.apart ops oj = true) →
   i ∈ Region.ready md ops listed → YieldsIf P ops S oi v a → S w →
   anyT P md ops Q n L f (listed.setIfInBounds i true) (a.put oi.dst v) w S → anyT P md ops Q n L (f + 1) listed a w S := by
 intro f
 induction f with
 | zero =>
  intro listed a w inv _ hr hy hS H
  have hun := (mem_ready.1 hr).1
  refine ⟨fun h => (by rw [h] at hr; cases hr), fun j hj => ?_⟩
  have hjn := Z92 hh inv hin hun j hj
  refine ⟨hjn, ?_⟩
  by_cases hji : j = i
  ·subst hji; exact hy.wpOp hi hS ⟨hS, H⟩
  ·have := hdone _ _ _ H j (ready_mono hj hji)
   omega
 | succ f ih =>
  intro listed a w inv hfree hr hy hS H
  have hun := (mem_ready.1 hr).1
  refine ⟨fun h => (by rw [h] at hr; cases hr), fun j hj => ?_⟩
  have hjn := Z92 hh inv hin hun j hj
  refine ⟨hjn, ?_⟩
  by_cases hji : j = i
  ·subst hji; exact hy.wpOp hi hS ⟨hS, H⟩
  ·have h1 := (H.2 j (ready_mono hj hji)).2
   obtain ⟨hjun, oj, hoj, hall⟩ := mem_ready.1 hj
   have hnot : ∀ e ∈ oj.after, Region.binds md e = true → e.on ≠ i := fun e he hb heq => by
    have h1 := hall e he hb
    rw [heq, getD_both hun] at h1
    cases h1
   have h2 := wpOp_putIf hoj (hfree j oj hoj hji hjun hnot) (fun cs b => hsel i oi cs b hi) (fun cs b => hsel j oj cs b hoj) hQ hy h1
   have hfree' : ∀ k ok, ops[k]? = some ok → k ≠ i → (listed.setIfInBounds j true).getD k true = false →
     (∀ e ∈ ok.after, Region.binds md e = true → e.on ≠ i) → oi.apart ops ok = true := fun k ok hk hki hun hno => by
    refine hfree k ok hk hki ?_ hno
    by_cases hjk : j = k
    ·subst hjk; exact hjun
    ·rw [getD_set_ne true hjk] at hun; exact hun
   refine wpOp_mono (fun a' w' h3 => ⟨h3.2.1, ih (listed.setIfInBounds j true) a' w' (inv.set hj hjn) hfree' (ready_mono hr (Ne.symm hji)) h3.1 h3.2.1 ?_⟩) h2
   rw [Array.setIfInBounds_comm _ _ hji]
   exact h3.2.2
end
def Z7f (ops : Array Oper) (n : Nat) : List (Nat × Bool) → Array Bool → Bool
 | [], listed => Region.seqB .any ops (ops.size - n) n listed
 | (i, true) :: r, listed => decide (i < n) && (Region.ready .any ops listed).contains i && Region.free .any ops listed i && Z7f ops n r (listed.setIfInBounds i true)
 | (i, false) :: r, listed => decide (i < n) && decide (Region.ready .any ops listed = [i]) && Z7f ops n r (listed.setIfInBounds i true)
def drawB (ops : Array Oper) (n : Nat) (l : List (Nat × Bool)) : Bool :=
 Region.noSelect ops && Z82 .any ops n && decide (l.length = n) && decide (n ≤ ops.size) && Z7f ops n l (Array.replicate ops.size false)
section
variable {P : Program} {T : Tab} {X : Ctx} {s : St}
def DrawJ (P : Program) (X : Ctx) (ops : Array Oper) (n : Nat) (rest : List (Nat × Bool)) (listed : Array Bool) (K : St → Prop) (s : St) : Prop :=
 ∀ (Qc : Exit → Act → World → Prop) a w, (∀ c a b w, Qc (.panic c) a w → Qc (.panic c) b w) → (∀ s' a' w', K s' → Rep X s' a' w' → Qc .normal a' w') → Rep X s a w → HeadInv .any ops n listed →
  anyT P .any ops Qc n (fun listed a w => Region.seqB .any ops (ops.size - n) n listed = true ∧ wpList P ops Qc (ops.toList.drop n) a w) rest.length listed a w (Grow w)
variable {ops : Array Oper} {n : Nat} {rest : List (Nat × Bool)} {listed : Array Bool} {K : St → Prop}
theorem DrawJ.nil (hw : Z7f ops n [] listed = true) (h : WPO P X ops (ops.toList.drop n) K s) : DrawJ P X ops n [] listed K s := by
 intro Qc a w hQ hK hr inv
 exact ⟨hw, h Qc a w hK hr⟩
theorem Zbi {listed : Array Bool} {a : Act} {w : World} {Qc : Exit → Act → World → Prop} (h : Region.seqB .any ops (ops.size - n) n listed = true ∧ wpList P ops Qc (ops.toList.drop n) a w) : ∀ j ∈ Region.ready .any ops listed, n ≤ j := seqB_ready h.1
theorem DrawJ.take {i : Nat} {o : Oper} (hi : ops[i]? = some o) (hs : Region.noSelect ops = true) (hh : Z82 .any ops n = true) (hin : i < n) (hr : (Region.ready .any ops listed).contains i = true) (hf : Region.free .any ops listed i = true)
  {x : AV} (hd : dOK X.n o.dst) (hy : ∀ σ F a w, RepAt X σ F s a w → ∃ v, YieldsIf P ops (Grow w) o v a ∧ RepV σ F w x v) (h : DrawJ P X ops n rest (listed.setIfInBounds i true) K (s.put o.dst x)) : DrawJ P X ops n ((i, true) :: rest) listed K s := by
 intro Qc a w hQ hK hrep inv
 obtain ⟨σ, F, hat⟩ := hrep
 obtain ⟨v, hv, hx⟩ := hy σ F a w hat
 have hr' : i ∈ Region.ready .any ops listed := by simpa using hr
 exact Z9a hi (Region.noSelect_spec hs) hh hin (fun _ _ _ h => Zbi h) (fun c a w h => hQ c _ _ w h) rest.length listed a w inv (Region.free_spec hi hf) hr' hv (Grow.refl w)
  (h Qc _ w hQ hK ⟨σ, F, hat.put hd hx⟩ (inv.set hr' hin))
theorem DrawJ.only {i : Nat} {o : Oper} (hi : ops[i]? = some o) (hin : i < n) (hr : Region.ready .any ops listed = [i])
  (h : ∀ (Qc : Exit → Act → World → Prop) (next : Act → World → Prop) a w, (∀ s' a' w', DrawJ P X ops n rest (listed.setIfInBounds i true) K s' → Rep X s' a' w' → Grow w w' → next a' w') → Rep X s a w →
   if Region.wanted o (yielded ops a.tmps) then o.wp P a w next Qc else next (a.put o.dst undef) w) : DrawJ P X ops n ((i, false) :: rest) listed K s := by
 intro Qc a w hQ hK hrep inv
 refine ⟨by rw [hr]; simp, fun j hj => ?_⟩
 rw [hr, List.mem_singleton] at hj
 subst hj
 refine ⟨hin, ?_⟩
 have hj' : j ∈ Region.ready .any ops listed := by rw [hr]; simp
 have h1 := h Qc (fun a' w' => Grow w w' ∧ anyT P .any ops Qc n (fun listed a w => Region.seqB .any ops (ops.size - n) n listed = true ∧ wpList P ops Qc (ops.toList.drop n) a w) rest.length (listed.setIfInBounds j true) a' w' (Grow w)) a w
  (fun s' a' w' hd hr' hg => ⟨hg, Z8i (fun w2 h2 => hg.trans h2) _ _ _ _ (hd Qc a' w' hQ hK hr' (inv.set hj' hin))⟩) hrep
 unfold wpOp
 simp only [hi]
 split
 ·rename_i hw; rw [if_pos hw] at h1; exact .inl h1
 ·rename_i hw; rw [if_neg hw] at h1; exact h1
theorem Rep.drawn {a : Act} {w : World} (h : Rep X s a w) : Rep X s a { w with drawn := w.drawn + 1 } := by
 obtain ⟨σ, F, hr⟩ := h
 exact ⟨σ, F, hr.ext (Ext.drew w)⟩
end
end Go.Proofs.YtcphmeggalaplaaDoor.Eng
set_option linter.unusedVariables false
set_option linter.unusedSimpArgs false
namespace Go.Proofs.YtcphmeggalaplaaDoor.Eng
open Go Go.RowKit
def nthOp : List Oper → Nat → Option Oper
 | [], _ => none
 | o :: _, 0 => some o
 | _ :: r, j + 1 => nthOp r j
theorem nthOp_eq : ∀ (l : List Oper) (j : Nat), nthOp l j = l[j]?
 | [], j => by simp [nthOp]
 | o :: r, 0 => by simp [nthOp]
 | o :: r, j + 1 => by simp [nthOp, nthOp_eq r j]
def Z86 {α : Type} : List α → Nat → List α
 | l, 0 => l
 | [], _ + 1 => []
 | _ :: r, j + 1 => Z86 r j
theorem Zai {α : Type} : ∀ (l : List α) (j : Nat), Z86 l j = l.drop j
 | l, 0 => by simp [Z86]
 | [], j + 1 => by simp [Z86]
 | o :: r, j + 1 => by simp [Z86, Zai r j]
@[irreducible] def OWEDG (P : Program) (X : Ctx) (o : Oper) (K : St → Prop) (s : St) : Prop := opWPG P X o K s
theorem OWEDG.intro {P : Program} {X : Ctx} {o : Oper} {K : St → Prop} {s : St} (h : opWPG P X o K s) : OWEDG P X o K s := by unfold OWEDG; exact h
section
variable {P : Program} {T : Tab} {B : Book} {X : Ctx} {s s' : St} {ops : Array Oper} {n : Nat} {rest : List (Nat × Bool)} {listed : Array Bool} {K : St → Prop}
theorem DrawJ.from (h : ∀ a w, Rep X s a w → Rep X s' a w) (k : DrawJ P X ops n rest listed K s') : DrawJ P X ops n rest listed K s :=
 fun Qc a w hQ hK hr inv => k Qc a w hQ hK (h a w hr) inv
theorem Z3g {j d : Nat} {b : Bool} (hj : (ops[j]?).bind (·.dst) = some d) (hn : d < X.n) (hd : envGet s.env d = .v (.bool b)) {a : Act} {w : World} (hr : Rep X s a w) : yielded ops a.tmps j = some b := by
 obtain ⟨σ, F, hr⟩ := hr
 have hv : a.tmps.getD d undef = .bool b := RepV.val (hd ▸ hr.env d)
 have hlt : d < a.tmps.size := by rw [hr.size]; exact hn
 have : a.tmps[d]? = some (.bool b) := by
  rw [Array.getElem?_eq_getElem hlt]
  rw [Array.getD_eq_getD_getElem?, Array.getElem?_eq_getElem hlt] at hv
  exact congrArg some hv
 simp [yielded, hj, this]
theorem OWEDG.run {o : Oper} (h : OWEDG P X o K s) : opWPG P X o K s := by unfold OWEDG at h; exact h
theorem opWPG.mono {o : Oper} {K K' : St → Prop} (h : opWPG P X o K s) (hk : ∀ s, K s → K' s) : opWPG P X o K' s :=
 fun Qc next a w hn hr => h Qc next a w (fun s' a' w' h1 h2 h3 => hn s' a' w' (hk _ h1) h2 h3) hr
end
end Go.Proofs.YtcphmeggalaplaaDoor.Eng
set_option linter.unusedVariables false
set_option linter.unusedSimpArgs false
namespace Go.Proofs.YtcphmeggalaplaaDoor.Eng
open Go Go.RowKit
def Z18 (n : Nat) : AV → AV
 | .own id sz off len => if id < n then .own id sz off len else .any
 | .ptr id i sz j => if id < n then .ptr id i sz j else .any
 | .nm id k => if id < n then .nm id k else .any
 | x => x
theorem Z81 (n id : Nat) : idx (List.range n) id = if id < n then some id else none := by
 split
 ·rename_i h
  cases hi : idx (List.range n) id with
  | none => exact absurd (List.mem_range.2 h) (idx_none hi)
  | some k =>
   have := idx_some hi
   rw [List.getElem?_range (by have := (List.getElem?_eq_some_iff.1 this).1; simpa using this)] at this
   exact this
 ·rename_i h
  cases hi : idx (List.range n) id with
  | none => rfl
  | some k =>
   have := List.mem_of_getElem? (idx_some hi)
   exact absurd (List.mem_range.1 this) h
theorem Z54 (n : Nat) : Z18 n = Z1t (List.range n) := by
 funext x
 cases x with
 | own id sz off len => simp only [Z18, Z1t, Z81]; split <;> rfl
 | ptr id i sz j => simp only [Z18, Z1t, Z81]; split <;> rfl
 | nm id k => simp only [Z18, Z1t, Z81]; split <;> rfl
 | _ => rfl
def St.trim (s : St) (n : Nat) : St := ⟨Zt (Z18 n) s.env, (s.heap.take n).map (AObj.sub (Z18 n))⟩
theorem Rep.trim {X : Ctx} {s : St} {a : Act} {w : World} {n : Nat} (hm : X.m ≤ n) (hn : n ≤ s.heap.length) (h : Rep X s a w) : Rep X (s.trim n) a w := by
 obtain ⟨σ, F, hr⟩ := h
 have hsel : ∀ id, id < n → selσ (List.range n) σ id = σ id := fun id h => by simp [selσ, List.getElem?_range h]
 refine ⟨selσ (List.range n) σ, F, hr.defers, hr.size, fun i => ?_, ?_, hr.keep, fun id g h => ?_, hr.fnew, fun id hid => ?_, by simp [St.trim, hn, hm]⟩
 ·simp only [St.trim, Zw, Z54]
  exact (hr.env i).sel
 ·have h1 := hr.heap.sel (keep := List.range n) List.nodup_range (fun i hi => Nat.lt_of_lt_of_le (List.mem_range.1 hi) hn)
  have h2 : (s.trim n).heap = Z1n (List.range n) s.heap := by
   simp only [St.trim, Z54, Z1n]
   apply List.ext_getElem?
   intro i
   simp only [List.getElem?_map, List.getElem?_take]
   by_cases hi : i < n
   ·rw [if_pos hi, List.getElem?_range hi, List.getElem?_eq_getElem (Nat.lt_of_lt_of_le hi hn)]
    simp [List.getElem?_eq_getElem (Nat.lt_of_lt_of_le hi hn)]
   ·rw [if_neg hi, List.getElem?_eq_none (by simpa using hi)]
    rfl
  rw [h2]; exact h1
 ·obtain ⟨i, _, h1⟩ := Z2v h
  exact hr.own _ _ h1
 ·rw [hsel id (Nat.lt_of_lt_of_le hid hm)]
  exact hr.stab id hid
theorem AV.le_of_eq {x y : AV} (h : x = y) : AV.le x y := h ▸ .refl x
section
variable {P : Program} {T : Tab} {B : Book} {X : Ctx} {s : St} {Q : Exit → St → Prop} {c : Code} {n m : Nat}
theorem WP.from {s' : St} (h : ∀ a w, Rep X s a w → Rep X s' a w) (k : WP P X c Q s') : WP P X c Q s := fun a w hr => k a w (h a w hr)
def nilOwn (s : St) (d : Nat) (e sz : Nat) : St := ⟨(d, .own s.heap.length sz 0 0) :: s.env, s.heap ++ [.row e sz []]⟩
theorem Rep.nilOwn {a : Act} {w : World} {d e sz : Nat} (hd : envGet s.env d = .v (.slice none 0 0)) (h : Rep X s a w) : Rep X (Eng.nilOwn s d e sz) a w := by
 obtain ⟨σ, F, hr⟩ := h
 have hv : a.tmps.getD d undef = .slice none 0 0 := RepV.val (hd ▸ hr.env d)
 have h1 := hr.newNil e sz
 refine ⟨_, F, ⟨h1.defers, h1.size, fun i => ?_, h1.heap, h1.keep, h1.own, h1.fnew, h1.stab, h1.hm⟩⟩
 simp only [Eng.nilOwn, envGet]
 split
 ·rename_i e; subst e; rw [hv]; exact .own0 _ _ (Z3 _ _ _)
 ·exact h1.env i
end
def FPost (P : Program) (f : Nat) (args : List AV) (post : AV → Prop) : Prop := FSpec P f [] args (fun r h => post r ∧ h = [])
abbrev FPure (P : Program) (f : Nat) (args : List AV) (R : AV) : Prop := FPost P f args (fun r => r = R)
theorem WP.monoR {P : Program} {X : Ctx} {c : Code} {Q Q' : Exit → St → Prop} {s : St} (h : WP P X c Q s) (hq : ∀ e s, Q e s → ∃ s', (∀ a w, Rep X s a w → Rep X s' a w) ∧ Q' e s') : WP P X c Q' s :=
 fun a w hr => wpIn_mono (h a w hr) fun e a w ⟨s, h1, h2⟩ => let ⟨s', h3, h4⟩ := hq e s h1; ⟨s', h4, h3 a w h2⟩
theorem FSpec.of_WP' {P : Program} {T : Tab} (hT : Zf P T) {f : Nat} {fn : Func} {c : Code} (hf : P.funcs[f]? = some fn) (hb : fn.body = some c) {h0 : List AObj} {args : List AV} {post : AV → List AObj → Prop}
  (h : ∀ X : Ctx, X.n = args.length + (fn.ntmps - args.length) → X.m = h0.length → X.ro = none → X.rf = false → WP P X c (Qret T fn h0.length post) ⟨Z14 0 args, h0⟩) : FSpec P f h0 args post := by
 intro σ F w vs hh hl hargs
 let X : Ctx := ⟨args.length + (fn.ntmps - args.length), w, ownB σ, F, h0.length, σ, none, false⟩
 refine calls_of_wp hf hb ?_
 have hrep : RepAt X σ F ⟨Z14 0 args, h0⟩ { tmps := vs.toArray ++ Array.replicate (fn.ntmps - vs.toArray.size) undef, defers := [] } w := by
  refine ⟨rfl, by simp [X, hl], fun i => ?_, hh, Keep.refl _ _, fun id g h => .inl ⟨id, h⟩, fun b hb => .inl hb, fun id _ => .inl rfl, Nat.le_refl _⟩
  rw [envGet_enum, if_pos (Nat.zero_le _), Nat.sub_zero]
  cases hx : args[i]? with
  | none => exact .f _ _ (.any _)
  | some x =>
   have hlt : i < vs.length := by have := (List.getElem?_eq_some_iff.1 hx).1; omega
   have : (vs.toArray ++ Array.replicate (fn.ntmps - vs.toArray.size) undef).getD i undef = vs[i] := by
    rw [Array.getD_eq_getD_getElem?, Array.getElem?_append_left (by simpa using hlt)]
    simp [hlt]
   rw [this]
   exact hargs i x _ hx (List.getElem?_eq_getElem hlt)
 refine Code.wp_mono' ((WP.wide rfl).1 (h X rfl rfl rfl rfl _ _ ⟨σ, F, hrep⟩)) ?_
 have fin : ∀ s a w', Ret T fn h0.length post s → Rep X s a w' → a.defers = [] ∧ ∃ v, (results fn a.tmps).run P w' = .ok v w' ∧ ∃ ret h' σ' F' rv, post ret h' ∧ Ending.returned v = .returned rv ∧ RepV σ' F' w' ret rv ∧ HRep σ' F' w' h' ∧ Keep (ownB σ) w w' ∧
   (∀ id g, hasB σ' id g → ownB σ g ∨ w.heap.size ≤ g) ∧ (∀ b, F' b → F b ∨ ownB σ b ∨ w.heap.size ≤ b) ∧ (∀ id, id < h0.length → σ' id = σ id ∨ σ' id = none) ∧ h0.length ≤ h'.length := by
  rintro s a w' hret ⟨σ', F', hr⟩
  unfold Ret at hret
  split at hret
  ·rename_i c xs hres
   obtain ⟨hc, extra, hnd, hin, ret, hle, hpost⟩ := hret
   obtain ⟨v, hv, hrv⟩ := Z63 hT hr hres hc
   have hin' : ∀ i ∈ List.range h0.length ++ extra, i < s.heap.length := fun i hi => by
    rcases List.mem_append.1 hi with h1 | h1
    ·have := hr.hm; have h2 := List.mem_range.1 h1; exact Nat.lt_of_lt_of_le h2 this
    ·exact hin i h1
   refine ⟨hr.defers, v, hv, ret, _, selσ (List.range h0.length ++ extra) σ', F', v, hpost, rfl, RepV.le hle hrv.sel, hr.heap.sel hnd hin', hr.keep, fun id g hs => ?_, hr.fnew, fun id hid => ?_, by simp [Z1n]⟩
   ·obtain ⟨i, _, h1⟩ := Z2v hs
    exact hr.own _ _ h1
   ·have : selσ (List.range h0.length ++ extra) σ' id = σ' id := by
     simp [selσ, List.getElem?_append_left (show id < (List.range h0.length).length by simpa using hid), List.getElem?_range hid]
    rw [this]
    exact hr.stab id hid
  ·exact hret.elim
 rintro e a w' ⟨s, hq, hr⟩
 cases e with
 | normal => exact fin s a w' hq hr
 | ret => exact fin s a w' hq hr
 | _ => exact hq.elim
section
variable {P : Program} {T : Tab} {B : Book} {X : Ctx} {s : St} {o : Oper} {K : St → Prop}
end
end Go.Proofs.YtcphmeggalaplaaDoor.Eng
set_option linter.unusedVariables false
namespace Go.Proofs.YtcphmeggalaplaaDoor.Eng
open Go Go.RowKit
section
variable {P : Program} {T : Tab} {B : Book} {X : Ctx} {n m : Nat} {Q : Exit → St → Prop} {K : St → Prop} {v : List (Nat × AV)} {h : List AObj}
end
end Go.Proofs.YtcphmeggalaplaaDoor.Eng
namespace Go.Proofs.YtcphmeggalaplaaDoor.Eng
open Go Go.RowKit
end Go.Proofs.YtcphmeggalaplaaDoor.Eng
namespace Go.Proofs.YtcphmeggalaplaaDoor.Eng
open Go Go.RowKit
end Go.Proofs.YtcphmeggalaplaaDoor.Eng
namespace Go.Proofs.YtcphmeggalaplaaDoor.Eng
end Go.Proofs.YtcphmeggalaplaaDoor.Eng
set_option linter.unusedVariables false
set_option linter.unusedSimpArgs false
namespace Go.Proofs.YtcphmeggalaplaaDoor.Eng
open Go Go.RowKit
def Zah (T : Tab) (ft : Nat) : AV → AV → Option Bool
 | .v (.int k a), .v (.int k' b) => match T ft with
  | some ⟨.int _, 1, _, _⟩ => if k = k' then some (a == b) else none
  | _ => none
 | .v (.bool a), .v (.bool b) => match T ft with
  | some ⟨.bool, 1, _, _⟩ => some (a == b)
  | _ => none
 | .v (.string a), .v (.string b) => match T ft with
  | some ⟨.str, 1, _, _⟩ => some (a == b)
  | _ => none
 | _, _ => none
def Z4x (T : Tab) : List (Nat × Nat) → List AV → List AV → Option Bool
 | [], _, _ => some true
 | (off, ft) :: r, xs, ys => match Zah T ft ((xs[off]?).getD .any) ((ys[off]?).getD .any), Z4x T r xs ys with
  | some p, some q => some (p && q)
  | _, _ => none
def eqB (P : Program) (t : Nat) : Bool := !P.stoodInHeld t && !P.eqGuardType P.depth t && (P.fieldsOf t).toList.all (fun f => f.name != "_")
section
variable {P : Program} {T : Tab} {X : Ctx} {σ : Nat → Option Blk} {F : Nat → Prop} {s : St} {a : Act} {w : World} {o : Oper} {K : St → Prop}
theorem Zhb (hT : Zf P T) {ft : Nat} {u v : Value} {q : Bool} (h : Zah T ft (.v u) (.v v) = some q) (d : Nat) : (Op.equalIn (d + 1) ft u v).run P w = .ok q w := by
 unfold Zah at h
 split at h
 ·rename_i e1 e2
  cases e1; cases e2
  split at h
  ·rename_i ht
   split at h
   ·rename_i hk
    subst hk
    cases h
    simp [Op.equalIn, run_underlying (hT _ _ ht).kind]
   ·cases h
  ·cases h
 ·rename_i e1 e2
  cases e1; cases e2
  split at h
  ·rename_i ht
   cases h
   simp [Op.equalIn, run_underlying (hT _ _ ht).kind]
  ·cases h
 ·rename_i e1 e2
  cases e1; cases e2
  split at h
  ·rename_i ht
   cases h
   simp [Op.equalIn, run_underlying (hT _ _ ht).kind]
  ·cases h
 ·cases h
theorem eqOne_v {ft : Nat} {x y : AV} {q : Bool} (h : Zah T ft x y = some q) : (∃ u, x = .v u) ∧ (∃ v, y = .v v) ∧ ∃ i, T ft = some i ∧ i.size = 1 ∧ i.k.agg = false := by
 unfold Zah at h
 split at h
 ·split at h
  ·rename_i ht; exact ⟨⟨_, rfl⟩, ⟨_, rfl⟩, _, ht, rfl, rfl⟩
  ·cases h
 ·split at h
  ·rename_i ht; exact ⟨⟨_, rfl⟩, ⟨_, rfl⟩, _, ht, rfl, rfl⟩
  ·cases h
 ·split at h
  ·rename_i ht; exact ⟨⟨_, rfl⟩, ⟨_, rfl⟩, _, ht, rfl, rfl⟩
  ·cases h
 ·cases h
theorem Z6v (hT : Zf P T) {xs ys : List AV} {us vs : List Value} (hx : ∀ (j : Nat) (u : Value), xs[j]? = some (.v u) → us[j]? = some u) (hy : ∀ (j : Nat) (u : Value), ys[j]? = some (.v u) → vs[j]? = some u) (d : Nat) :
  ∀ (fl : List Field) (q : Bool), fl.all (fun f => f.name != "_") = true → Z4x T (fl.map fun f => (f.offset, f.type)) xs ys = some q → (Op.eqFields (d + 1) us.toArray vs.toArray fl).run P w = .ok q w
 | [], q, hn, h => by simp [Z4x] at h; subst h; simp [Op.eqFields]
 | f :: fl, q, hn, h => by
  simp only [List.map_cons, Z4x] at h
  split at h
  ·rename_i p r hp hr
   cases h
   simp only [List.all_cons, Bool.and_eq_true] at hn
   obtain ⟨⟨u, hu⟩, ⟨v, hv⟩, i, hi, h1, h2⟩ := eqOne_v hp
   have hgx : us[f.offset]? = some u := by
    cases hq : xs[f.offset]? with
    | none => rw [hq] at hu; cases hu
    | some z => rw [hq] at hu; simp at hu; subst hu; exact hx _ _ hq
   have hgy : vs[f.offset]? = some v := by
    cases hq : ys[f.offset]? with
    | none => rw [hq] at hv; cases hv
    | some z => rw [hq] at hv; simp at hv; subst hv; exact hy _ _ hq
   have hpx : (part f.type us.toArray f.offset).run P w = .ok u w := by simp [part, (hT _ _ hi).agg_run, h2, hgx]
   have hpy : (part f.type vs.toArray f.offset).run P w = .ok v w := by simp [part, (hT _ _ hi).agg_run, h2, hgy]
   rw [hu, hv] at hp
   have hn' : f.name ≠ "_" := by simpa using hn.1
   have ih := Z6v hT hx hy d fl r hn.2 hr
   rw [Op.eqFields]
   simp only [if_pos hn', Sem.run_bind, hpx, hpy, Zhb hT hp d, Result.andThen_ok]
   cases p
   ·simp
   ·simpa using ih
  ·cases h
theorem op_ifc {op : BinOp} {t t' : Nat} {y : Operand} {b : Bool} (hop : eqOp op = some b) (ho : o.op = .binOp op t y (.const .nilIface) t') {ms : Array (String × TypeId)} (hu : P.underlying t = some (.interface ms)) (hy : s.ev y = .v .nilIface) (hd : dOK X.n o.dst) (hK : K (s.put o.dst (.v (.bool (!b))))) : opWP P X o K s := by
 rintro Qc next a w hn ⟨σ, F, hr⟩
 have hvy : a.eval y = .nilIface := RepV.val (hy ▸ hr.ev y)
 have hvz : a.eval (.const .nilIface) = .nilIface := rfl
 have hq : (Op.equal t .nilIface .nilIface).run P w = .ok true w := by
  have h4 : ∀ d, (Op.equalIn (d + 1) t .nilIface .nilIface).run P w = .ok true w := fun d => by simp [Op.equalIn, run_underlying hu]
  exact h4 9999
 have hg : ∀ op : BinOp, (eqGuard op t y (.const .nilIface) .nilIface .nilIface).run P w = .ok () w := fun op => by
  cases op <;> simp [eqGuard]
 have hg := hg op
 have hex : (execOp a.eval o).run P w = .ok (.value (.bool (!b))) w := by
  unfold eqOp at hop
  split at hop
  ·rename_i e; subst e; cases hop
   simp only [execOp, ho, hvy, hvz, Sem.run_bind, hg, Result.andThen_ok, binOp, hq, Sem.run_pure]
   rfl
  ·split at hop
   ·rename_i e; subst e; cases hop
    simp only [execOp, ho, hvy, hvz, Sem.run_bind, hg, Result.andThen_ok, binOp, hq, Sem.run_pure]
   ·cases hop
 unfold Oper.wp
 rw [hex]
 exact hn _ _ _ hK ⟨σ, F, hr.put hd (.f _ _ (.v _))⟩
theorem op_eqs (hT : Zf P T) {op : BinOp} {t t' : Nat} {y z : Operand} {b : Bool} (hop : eqOp op = some b) (ho : o.op = .binOp op t y z t') {fs : List (Nat × Nat)} {n m : Nat} {zv : Value} (ht : T t = some ⟨.struct fs, n, m, zv⟩) (hE : eqB P t = true) {xs ys : List AV} (hx : s.ev y = .agg xs) (hy : s.ev z = .agg ys)
  {q : Bool} (he : Z4x T fs xs ys = some q) (hd : dOK X.n o.dst) (hK : K (s.put o.dst (.v (.bool (q != b))))) : opWP P X o K s := by
 rintro Qc next a w hn ⟨σ, F, hr⟩
 obtain ⟨us, hu, hul, _, huc⟩ := RepV.aggv (hx ▸ hr.ev y)
 obtain ⟨vs, hv, hvl, _, hvc⟩ := RepV.aggv (hy ▸ hr.ev z)
 obtain ⟨ar, hur, hm⟩ := (hT _ _ ht).kind
 subst hm
 simp only [eqB, Bool.and_eq_true, Bool.not_eq_true'] at hE
 obtain ⟨⟨h1, h2⟩, h3⟩ := hE
 have hf : P.fieldsOf t = ar := by simp [Program.fieldsOf, hur]
 have get : ∀ {xs : List AV} {us : List Value}, xs.length = us.length → (∀ (j : Nat) (x : AV) (u : Value), xs[j]? = some x → us[j]? = some u → RepV σ F w x u) → ∀ (j : Nat) (u : Value), xs[j]? = some (.v u) → us[j]? = some u := fun {xs us} hl hc j u hj => by
  have hlt : j < us.length := by have := (List.getElem?_eq_some_iff.1 hj).1; omega
  rw [List.getElem?_eq_getElem hlt]
  exact congrArg some (RepV.val (hc j _ _ hj (List.getElem?_eq_getElem hlt)))
 have hrun : (Op.equal t (.agg us.toArray) (.agg vs.toArray)).run P w = .ok q w := by
  have h4 : ∀ d, (Op.equalIn (d + 1 + 1) t (.agg us.toArray) (.agg vs.toArray)).run P w = .ok q w := fun d => by
   rw [run_equalIn_struct (P := P) (w := w) _ _ _ _ (by rw [hf]; exact hur) h1, hf]
   exact Z6v hT (get hul huc) (get hvl hvc) d ar.toList q (by rw [← hf]; exact h3) he
  exact h4 9998
 have hg0 : ∀ op : BinOp, (eqGuard op t y z (.agg us.toArray) (.agg vs.toArray)).run P w = .ok () w := fun op => by
  cases op <;> simp [eqGuard, h2]
 have hg := hg0 op
 have hex : (execOp a.eval o).run P w = .ok (.value (.bool (q != b))) w := by
  unfold eqOp at hop
  split at hop
  ·rename_i e; subst e; cases hop
   simp only [execOp, ho, hu, hv, Sem.run_bind, hg, Result.andThen_ok, binOp, hrun, Sem.run_pure]
   simp
  ·split at hop
   ·rename_i e; subst e; cases hop
    simp only [execOp, ho, hu, hv, Sem.run_bind, hg, Result.andThen_ok, binOp, hrun, Sem.run_pure]
    simp
   ·cases hop
 unfold Oper.wp
 rw [hex]
 exact hn _ _ _ hK ⟨σ, F, hr.put hd (.f _ _ (.v _))⟩
end
end Go.Proofs.YtcphmeggalaplaaDoor.Eng
set_option linter.unusedVariables false
set_option linter.unusedSimpArgs false
namespace Go.Proofs.YtcphmeggalaplaaDoor.Eng
open Go Go.RowKit
theorem beqB (a b : ByteArray) : (a == b) = decide (a = b) := by
 rw [Bool.eq_iff_iff, MapKept.bytes_beq]; simp
theorem Z4g (b : ByteArray) : ∀ (l : List MapEntry) (es : List (ByteArray × Value)) (i : Nat), l.map Z9s = es.map Z9r →
  (Instr.findNow .string (.string b) l i = some none ∧ Z3n b es = none ∧ ∀ v, Z7s b v es = es ++ [(b, v)]) ∨
  ∃ j e, Instr.findNow .string (.string b) l i = some (some (i + j, e.val)) ∧ Z3n b es = some e.val ∧ l[j]? = some e ∧ e.key = .string b ∧ ∀ v, (l.modify j fun e => { e with key := .string b, val := v }).map Z9s = (Z7s b v es).map Z9r
 | [], [], i, _ => .inl ⟨rfl, rfl, fun v => rfl⟩
 | [], p :: es, i, h => by simp at h
 | e :: l, [], i, h => by simp at h
 | e :: l, p :: es, i, h => by
  simp only [List.map_cons, List.cons.injEq] at h
  obtain ⟨h1, h2⟩ := h
  have hk : e.key = .string p.1 := congrArg Prod.fst h1
  have hv : e.val = p.2 := congrArg Prod.snd h1
  have hs : Instr.sameNow .string (.string b) e.key = some (decide (b = p.1)) := by rw [hk]; simp only [Instr.sameNow, beqB]
  simp only [Instr.findNow, hs, Z3n, Z7s]
  cases hd : decide (b = p.1) with
  | true =>
   have hb := of_decide_eq_true hd
   exact .inr ⟨0, e, rfl, by simp [hv], rfl, by rw [hk, hb], fun v => by simp [Z9s, Z9r, h2]⟩
  | false =>
   rcases Z4g b l es (i + 1) h2 with ⟨h3, h4, h5⟩ | ⟨j, e', h3, h4, h5, h6, h7⟩
   ·exact .inl ⟨h3, h4, fun v => by simp [h5]⟩
   ·refine .inr ⟨j + 1, e', ?_, h4, by simpa using h5, h6, fun v => ?_⟩
    ·simp only [h3]; congr 3; omega
    ·simp only [List.modify_succ_cons, List.map_cons, h7, h1]
def Z53 (v : Value) : AV := match v with
 | .agg vs => (match vs.toList.all Value.oneCell' with
  | true => .agg (vs.toList.map AV.v)
  | false => .v v)
 | _ => .v v
def lkAV (ok : Bool) (q : Option Value) (z : Value) : AV := match ok with
 | true => .tup [Z53 (q.getD z), .v (.bool q.isSome)]
 | false => Z53 (q.getD z)
section
variable {P : Program} {T : Tab} {X : Ctx} {σ σ' : Nat → Option Blk} {F F' : Nat → Prop} {s s' : St} {a : Act} {w w' : World} {o : Oper} {c : Prop} {x : AV} {v : Value} {K : St → Prop}
theorem Zdf {t : Nat} (ho : o.op = .makeMap t none) (hd : dOK X.n o.dst)
  (hK : K (St.put { s with heap := s.heap ++ [.mapo []] } o.dst (.nm s.heap.length []))) : opWPG P X o K s := by
 refine opWPG.mem (fun σ F a w hr => ?_) hd
 refine ⟨.map (some w.heap.size), w.alloc (.map #[] 0), _, F, _, _, ?_, Grow.alloc w _, (hr.ext (Ext.alloc w (.map #[] 0))).new (k := .ext (fun h => h = w.heap.size) fun _ => .map (some w.heap.size)) (ob := .mapo []) ?_ (fun g hg => ?_), ?_, hK⟩
 ·simp only [execOp, ho, Option.map_none, Sem.run_bind, run_makeMap, Result.andThen_ok]
  rfl
 ·exact ⟨w.heap.size, #[], 0, Z3 _ _ _, heap_alloc_new w _, .nil⟩
 ·have e1 : g = w.heap.size := hg
  subst e1
  refine ⟨by simp, fun hF => ?_, hr.keep.size, fun id h => ?_⟩
  ·have := hr.heap.flt _ hF; omega
  ·have := (hr.heap.lt _ _ h).1; omega
 ·exact .nm s.heap.length [] _ _ (Z3 _ _ _) rfl
theorem Zjq (hr : RepAt X σ F s a w) {y : Operand} {id : Nat} {k : List Nat} (hy : s.ev y = .nm id k) {es : List (ByteArray × Value)} (hq : s.heap[id]? = some (.mapo es)) :
  ∃ g arr clock, σ id = some (.ext (fun h => h = g) fun _ => .map (some g)) ∧ a.eval y = .map (some g) ∧ w.heap[g]? = some (.map arr clock) ∧ MapIs arr clock es := by
 obtain ⟨g, arr, clock, h1, h2, h3⟩ := hr.heap.obj id _ hq
 obtain ⟨gs, V, h4, h5⟩ := RepV.nmv (hy ▸ hr.ev y)
 rw [h1] at h4
 cases h4
 exact ⟨g, arr, clock, h1, h5, h2, h3⟩
theorem RepV.vAV (v : Value) : RepV σ F w (Z53 v) v := by
 unfold Z53
 split
 ·rename_i vs
  split
  ·rename_i h
   rw [List.all_eq_true] at h
   have h2 : RepV σ F w (.agg (vs.toList.map AV.v)) (.agg vs.toList.toArray) := .agg _ vs.toList (by simp) h (fun j x u hx hu => by
    rw [List.getElem?_map, hu] at hx
    cases hx
    exact .f _ _ (.v _))
   simpa using h2
  ·exact .f _ _ (.v _)
 ·exact .f _ _ (.v _)
theorem RepV.ofValAV {v y : Value} (h : RepV σ F w (Z53 v) y) : y = v := by
 unfold Z53 at h
 split at h
 ·rename_i vs
  split at h
  ·have key : ∀ us : List Value, us.length = vs.toList.length → (∀ (j : Nat) (u u' : Value), vs.toList[j]? = some u → us[j]? = some u' → u' = u) → us = vs.toList := fun us hl hj => by
    apply List.ext_getElem hl
    intro j h1 h2
    exact hj j _ _ (List.getElem?_eq_getElem h2) (List.getElem?_eq_getElem h1)
   cases h with
   | agg _ us hl h1 h2 =>
    rw [key us (by simpa using hl.symm) (fun j u u' hu hu' => RepV.val (h2 j (.v u) u' (by rw [List.getElem?_map, hu]; rfl) hu'))]
   | f _ _ h => cases h
  ·exact RepV.val h
 ·exact RepV.val h
theorem RepV.tup2' (x y : Value) : RepV σ F w (.tup [Z53 x, .v y]) (.tuple #[x, y]) := by
 refine .tup _ [x, y] rfl (fun j a b ha hb => ?_)
 match j with
 | 0 => simp at ha hb; subst ha hb; exact RepV.vAV _
 | 1 => simp at ha hb; subst ha hb; exact .f _ _ (.v _)
 | j + 2 => simp at ha
theorem Zf4 {t kt et : Nat} {y z : Operand} {ok : Bool} (ho : o.op = .lookup t y z ok) (hm : P.underlying t = some (.map kt et)) (hkt : P.underlying kt = some .string) {i : TI} (hi : TIOk P et i)
  {id : Nat} {k : List Nat} (hy : s.ev y = .nm id k) {b : ByteArray} (hz : s.ev z = .v (.string b)) {es : List (ByteArray × Value)} (hq : s.heap[id]? = some (.mapo es)) (hd : dOK X.n o.dst)
  (hK : K (s.put o.dst (lkAV ok (Z3n b es) i.zero))) : opWPG P X o K s := by
 refine opWPG.val (fun σ F a w hr => ?_) hd hK
 obtain ⟨g, arr, clock, h1, h2, h3, hmi⟩ := Zjq hr hy hq
 obtain ⟨⟨es0, h4, hp0⟩, hup, _, _⟩ := hmi
 rw [← Z8y hp0 hup.nodup]
 have hz' : a.eval z = .string b := RepV.val (hz ▸ hr.ev z)
 have hck := MapKept.run_checkKey (P := P) (w := w) (k := .string b) hkt trivial arr.isEmpty 9999
 have hzr := fun w => (hi.zero_run : (zeroValue et).run P w = _)
 rcases Z4g b arr.toList es0 0 h4 with ⟨h5, h6, _⟩ | ⟨j, e, h5, h6, _⟩
 ·have hf := MapKept.run_findKey (P := P) (w := w) hkt h5
  cases ok
  ·refine ⟨i.zero, ?_, by rw [h6]; exact RepV.vAV _⟩
   simp [execOp, ho, h2, hz', Instr.lookup, run_underlying hm, MapKept.run_getObj_map h3, hck, hf, hzr, Sem.run_bind, Result.andThen]
  ·refine ⟨.tuple #[i.zero, .bool false], ?_, by rw [h6]; exact RepV.tup2' _ _⟩
   simp [execOp, ho, h2, hz', Instr.lookup, run_underlying hm, MapKept.run_getObj_map h3, hck, hf, hzr, Sem.run_bind, Result.andThen]
 ·have hf := MapKept.run_findKey (P := P) (w := w) hkt h5
  cases ok
  ·refine ⟨e.val, ?_, by rw [h6]; exact RepV.vAV _⟩
   simp [execOp, ho, h2, hz', Instr.lookup, run_underlying hm, MapKept.run_getObj_map h3, hck, hf, hzr, Sem.run_bind, Result.andThen]
  ·refine ⟨.tuple #[e.val, .bool true], ?_, by rw [h6]; exact RepV.tup2' _ _⟩
   simp [execOp, ho, h2, hz', Instr.lookup, run_underlying hm, MapKept.run_getObj_map h3, hck, hf, hzr, Sem.run_bind, Result.andThen]
theorem RepF.mpv {es : List (ByteArray × Value)} (h : RepF F w (.mp es) v) : (es = [] ∧ v = .map none) ∨ ∃ g arr clock, v = .map (some g) ∧ w.heap[g]? = some (.map arr clock) ∧ MapIs arr clock es := by
 cases h with
 | mp0 => exact .inl ⟨rfl, rfl⟩
 | mp _ g arr clock hF hg hm => exact .inr ⟨g, arr, clock, rfl, hg, hm⟩
theorem Zf5 {t kt et : Nat} {y z : Operand} {ok : Bool} (ho : o.op = .lookup t y z ok) (hm : P.underlying t = some (.map kt et)) (hkt : P.underlying kt = some .string) {i : TI} (hi : TIOk P et i)
  {es : List (ByteArray × Value)} (hy : s.ev y = .mp es) {b : ByteArray} (hz : s.ev z = .v (.string b)) (hd : dOK X.n o.dst)
  (hK : K (s.put o.dst (lkAV ok (Z3n b es) i.zero))) : opWPG P X o K s := by
 refine opWPG.val (fun σ F a w hr => ?_) hd hK
 have hz' : a.eval z = .string b := RepV.val (hz ▸ hr.ev z)
 have hzr := fun w => (hi.zero_run : (zeroValue et).run P w = _)
 have hyv : RepF F w (.mp es) (a.eval y) := (hy ▸ hr.ev y).toF rfl
 rcases RepF.mpv hyv with ⟨rfl, h2⟩ | ⟨g, arr, clock, h2, h3, hmi⟩
 ·have hck := MapKept.run_checkKey (P := P) (w := w) (k := .string b) hkt trivial true 9999
  have hf0 : (Instr.findKey kt (.string b) []).run P w = .ok none w := by
   have := MapKept.run_findKey (P := P) (w := w) (k := .string b) (l := []) (a := none) hkt (by rfl)
   exact this
  cases ok
  ·refine ⟨i.zero, ?_, RepV.vAV _⟩
   simp [execOp, ho, h2, hz', hf0, Instr.lookup, run_underlying hm, hck, hzr, Sem.run_bind, Result.andThen]
  ·refine ⟨.tuple #[i.zero, .bool false], ?_, RepV.tup2' _ _⟩
   simp [execOp, ho, h2, hz', hf0, Instr.lookup, run_underlying hm, hck, hzr, Sem.run_bind, Result.andThen]
 ·obtain ⟨⟨es0, h4, hp0⟩, hup, _, _⟩ := hmi
  rw [← Z8y hp0 hup.nodup]
  have hck := MapKept.run_checkKey (P := P) (w := w) (k := .string b) hkt trivial arr.isEmpty 9999
  rcases Z4g b arr.toList es0 0 h4 with ⟨h5, h6, _⟩ | ⟨j, e, h5, h6, _⟩
  ·have hf := MapKept.run_findKey (P := P) (w := w) hkt h5
   cases ok
   ·refine ⟨i.zero, ?_, by rw [h6]; exact RepV.vAV _⟩
    simp [execOp, ho, h2, hz', Instr.lookup, run_underlying hm, MapKept.run_getObj_map h3, hck, hf, hzr, Sem.run_bind, Result.andThen]
   ·refine ⟨.tuple #[i.zero, .bool false], ?_, by rw [h6]; exact RepV.tup2' _ _⟩
    simp [execOp, ho, h2, hz', Instr.lookup, run_underlying hm, MapKept.run_getObj_map h3, hck, hf, hzr, Sem.run_bind, Result.andThen]
  ·have hf := MapKept.run_findKey (P := P) (w := w) hkt h5
   cases ok
   ·refine ⟨e.val, ?_, by rw [h6]; exact RepV.vAV _⟩
    simp [execOp, ho, h2, hz', Instr.lookup, run_underlying hm, MapKept.run_getObj_map h3, hck, hf, hzr, Sem.run_bind, Result.andThen]
   ·refine ⟨.tuple #[e.val, .bool true], ?_, by rw [h6]; exact RepV.tup2' _ _⟩
    simp [execOp, ho, h2, hz', Instr.lookup, run_underlying hm, MapKept.run_getObj_map h3, hck, hf, hzr, Sem.run_bind, Result.andThen]
theorem Zge {t : Nat} {y : Operand} {args ts : Array _} (ho : o.op = .call { callee := .builtin .cap, args := args, argTypes := ts }) (ha : args.toList = [y]) (ht : ts.toList = [t]) {e : Nat} (hu : P.underlying t = some (.slice e)) (hy : s.ev y = .v (.slice none 0 0)) (hd : dOK X.n o.dst)
  (hK : K (s.put o.dst (.v (.int .i64 0)))) : opWPG P X o K s := by
 have ha' : args = #[y] := by rw [← Array.toArray_toList (xs := args), ha]
 have ht' : ts = #[t] := by rw [← Array.toArray_toList (xs := ts), ht]
 subst ha' ht'
 refine opWPG.val (fun σ F a w hr => ⟨.int .i64 0, ?_, .f _ _ (.v _)⟩) hd hK
 have he : a.eval y = .slice none 0 0 := RepV.val (hy ▸ hr.ev y)
 simp [execOp, ho, resolve, invoke, builtin, Builtin.cap_, run_underlying hu, he, goInt]
theorem Zde (hT : Zf P T) {t e : Nat} {y : Operand} {lo hi : Option Operand} (ho : o.op = .slice t y lo hi none) (hy : s.ev y = .v (.slice none 0 0)) {m p : Nat} {z : Value} (ht : T t = some ⟨.slice e, m, p, z⟩)
  {ti : TI} (hti : T e = some ti) {l h : Nat} (hb : bnds (lo.map s.ev) (hi.map s.ev) 0 = some (c, l, h)) (hc : c) (hd : dOK X.n o.dst)
  (hK : K (s.put o.dst (.v (.slice none 0 0)))) : opWPG P X o K s := by
 refine opWPG.val (fun σ F a w hr => ⟨.slice none 0 0, ?_, .f _ _ (.v _)⟩) hd hK
 have he : a.eval y = .slice none 0 0 := RepV.val (hy ▸ hr.ev y)
 obtain ⟨h1, h2, hrun⟩ := Z1p (P := P) hr hb hc true 0 (Nat.le_refl _)
 obtain rfl : h = 0 := by omega
 obtain rfl : l = 0 := by omega
 simp [execOp, ho, he, Z3z hT ht hti none 0 0 0 0 (hrun w)]
theorem Z6y {t t' e ty : Nat} (hu : P.underlying t = some (.slice e)) {k0 : IntKind} (hd : P.underlying t' = some (.int k0)) {i : TI} (hz : TIOk P e i) (hb : 0 < i.bytes) (hsz : 0 < i.size) {n : Int} {k : IntKind} (h0 : 0 < n) (hfit : n * i.bytes ≤ 140737488355328) :
  (Builtin.append_ #[t, t'] ty #[.slice none 0 0, .int k n]).run P w = .ok (.slice (some ⟨w.heap.size, 0, none⟩) n.toNat (grownCap w n.toNat 0 e))
   (w.drew.alloc (.cells (Builtin.zeroCells i.zero.cells n.toNat ++ Builtin.zeroCells i.zero.cells (grownCap w n.toNat 0 e - n.toNat)) e)) := by
 obtain ⟨q, hq, h1, h2, h3⟩ := hz.bytes_run (w := w)
 obtain ⟨q', hq', h1', h2', h3'⟩ := hz.bytes_run (w := w.drew)
 have hn1 : n ≤ 140737488355328 := by
  have : n * 1 ≤ n * (i.bytes : Int) := Int.mul_le_mul_of_nonneg_left (by omega) (by omega)
  omega
 have hwrap : IntKind.i64.wrap n = n := IntWalk.i64_in n (by omega)
 have hn : ¬ (n.toNat ≤ 0) := by omega
 have hfitN : (0 + n.toNat) * i.bytes ≤ 140737488355328 := by
  have : ((n.toNat * i.bytes : Nat) : Int) = n * i.bytes := by rw [Int.natCast_mul, Int.toNat_of_nonneg (by omega)]
  rw [Nat.zero_add]; omega
 have h48 : ¬ (281474976710656 < Builtin.nextslicecap n.toNat 0 * i.bytes) := by
  have := growslice_fits (need := 0 + n.toNat) (old := 0) (bytes := i.bytes) (by omega) hfitN
  rw [Nat.zero_add] at this
  omega
 have hbl : ¬ (281474976710656 < n * (i.bytes : Int)) := by omega
 have hb' : ¬ i.bytes = 0 := by omega
 have hmax : ¬ ((n.toNat : Int) > IntKind.i64.max) := by
  have : IntKind.i64.max = 9223372036854775807 := rfl
  omega
 have hns : ¬ (n.toNat * i.size = 0) := by
  intro h
  rcases Nat.mul_eq_zero.1 h with h | h <;> omega
 have hmark : ∀ b : Nat, (askRoom b).run P w.drew = .ok () w.drew := fun b => by unfold askRoom; split <;> simp [mark, Sem.run]
 have hfc : (Builtin.firstCells i.size 0 (.slice none 0 0)).run P w.drew = .ok #[] w.drew := by simp [Builtin.firstCells, Sem.run]
 simp [Builtin.append_, run_underlying hu, run_underlying hd, hz.size_run, asInt, asIntOf, hwrap, show ¬ n < 0 by omega, show ¬ n ≤ 0 by omega, show ¬ (9223372036854775807 < max n 0) by omega, hq, h1, hbl, hn, hmax, hb', h48, Question.forced, hmark, hfc, hz.zero_run, hns, newRow, newObj, Sem.run, grownCap, hq', h1', Result.andThen]
 rfl
theorem Z8l {t t' e : Nat} {y z : Operand} (ho : o.op = .call { callee := .builtin .append, args := #[y, z], argTypes := #[t, t'] }) (hT : Zf P T) {m p : Nat} {zv : Value} (ht : T t = some ⟨.slice e, m, p, zv⟩) {ti : TI} (hti : T e = some ti)
  {k0 : IntKind} {m' p' : Nat} {z' : Value} (ht' : T t' = some ⟨.int k0, m', p', z'⟩) (hy : s.ev y = .v (.slice none 0 0)) {k : IntKind} {n : Int} (hz : s.ev z = .v (.int k n)) (hsz : 0 < ti.size) (hby : 0 < ti.bytes) (h0 : 0 < n) (hfit : n * ti.bytes ≤ 140737488355328) (hd : dOK X.n o.dst)
  (hK : K (St.put { s with heap := s.heap ++ [.row e ti.size (List.replicate n.toNat (ti.zero.cells.toList.map .v))] } o.dst (.own s.heap.length ti.size 0 n.toNat))) : opWPG P X o K s := by
 refine opWPG.mem (fun σ F a w hr => ?_) hd
 have hzt := hT _ _ hti
 have hv : a.eval y = .slice none 0 0 := RepV.val (hy ▸ hr.ev y)
 have hv2 : a.eval z = .int k n := RepV.val (hz ▸ hr.ev z)
 have hr1 := Z6y (P := P) (w := w) (t := t) (t' := t') (ty := o.type) (hT _ _ ht).kind (hT _ _ ht').kind hzt hby hsz h0 hfit (k := k)
 have hn1 : n ≤ 140737488355328 := by
  have : n * 1 ≤ n * (ti.bytes : Int) := Int.mul_le_mul_of_nonneg_left (by omega) (by omega)
  omega
 have hge := grownCap_ge w n.toNat 0 e
 have hcm := grownCap_le_maxLen w n.toNat 0 e (by simp only [maxLen]; omega)
 let cur : Array Value := Builtin.zeroCells ti.zero.cells n.toNat ++ Builtin.zeroCells ti.zero.cells (grownCap w n.toNat 0 e - n.toNat)
 have hcs : cur.size = (0 + grownCap w n.toNat 0 e) * ti.size := by
  simp only [cur, Array.size_append, size_zeroCells, hzt.cells, ← Nat.add_mul]
  congr 1; omega
 have hrep : ∀ (w' : World) (i : Nat) (cs : List AV) (j : Nat) (x : AV), (List.replicate n.toNat (ti.zero.cells.toList.map AV.v))[i]? = some cs → cs[j]? = some x → ∃ u, cur[(0 + i) * ti.size + j]? = some u ∧ u.oneCell' = true ∧ RepF F w' x u := fun w' i cs j x hi hj => by
  have hi' : i < n.toNat := by have := (List.getElem?_eq_some_iff.1 hi).1; simpa using this
  rw [List.getElem?_replicate, if_pos hi'] at hi
  injection hi with hi
  subst hi
  rw [List.getElem?_map, Option.map_eq_some_iff] at hj
  obtain ⟨u, hu', rfl⟩ := hj
  have hj' : j < ti.size := by have := (List.getElem?_eq_some_iff.1 hu').1; rw [Array.length_toList, hzt.cells] at this; exact this
  have hlt : i * ti.size + j < n.toNat * ti.size := by
   have : (i + 1) * ti.size ≤ n.toNat * ti.size := Nat.mul_le_mul_right _ hi'
   rw [Nat.succ_mul] at this
   omega
  have hm : (i * ti.size + j) % ti.zero.cells.size = j := by rw [hzt.cells, Nat.mul_comm, Nat.mul_add_mod, Nat.mod_eq_of_lt hj']
  refine ⟨u, ?_, List.all_eq_true.1 hzt.one u (List.mem_of_getElem? hu'), .v u⟩
  rw [Nat.zero_add]
  have hj2 : j < ti.zero.cells.size := by rw [hzt.cells]; exact hj'
  have hget : ti.zero.cells[j]! = u := by
   rw [Array.getElem?_toList] at hu'
   rw [getElem!_pos ti.zero.cells j hj2]
   rw [Array.getElem?_eq_getElem hj2] at hu'
   injection hu'
  have hsz2 : (Builtin.zeroCells ti.zero.cells n.toNat).size = n.toNat * ti.size := by rw [size_zeroCells, hzt.cells]
  simp only [cur]
  rw [Array.getElem?_append_left (by rw [hsz2]; exact hlt)]
  simp only [Builtin.zeroCells, Array.getElem?_map, Array.getElem?_range]
  rw [if_pos (by rw [hzt.cells]; exact hlt)]
  simp only [Option.map_some, hm, hget]
 let w1 := w.drew.alloc (.cells cur e)
 have hE : Ext w w1 := ⟨rfl, rfl, rfl, by simp [w1], fun b hb _ => by
  have : (w.drew.alloc (.cells cur e)).heap[b]? = w.drew.heap[b]? := Below.heap_alloc w.drew _ b hb
  exact this⟩
 have hrun : (execOp a.eval o).run P w = .ok (.value (.slice (some ⟨w.heap.size, 0, none⟩) n.toNat (grownCap w n.toNat 0 e))) w1 := by
  simp [execOp, ho, resolve, invoke, builtin, hv, hv2, hr1, w1, cur]
 refine ⟨_, w1, upd σ s.heap.length (some (.at_ w.heap.size 0 (grownCap w n.toNat 0 e) n.toNat)), F, _, _, hrun, ⟨hE.size, fun b hb => hE.block b hb (fun h => h)⟩, (hr.ext hE).new ?_ (fun g hk => ?_), ?_, hK⟩
 ·exact .inr ⟨w.heap.size, 0, grownCap w n.toNat 0 e, cur, by rw [Z3]; simp, by simpa using hge, by simpa using hcm, heap_alloc_new w.drew _, hcs, fun cs hcs' => by rw [(List.mem_replicate.1 hcs').2]; simp [hzt.cells], hrep w1⟩
 ·have e1 : g = w.heap.size := hk
  subst e1
  refine ⟨by simp [w1], fun hF => ?_, hr.keep.size, fun id h => ?_⟩
  ·have := hr.heap.flt _ hF; omega
  ·have := (hr.heap.lt _ _ h).1; omega
 ·have := RepV.own (σ := upd σ s.heap.length (some (.at_ w.heap.size 0 (grownCap w n.toNat 0 e) n.toNat))) (F := F) (w := w1) s.heap.length ti.size 0 n.toNat w.heap.size 0 (grownCap w n.toNat 0 e) n.toNat (Z3 _ _ _) (by simp) hge
  simpa using this
theorem Zgk (l : List AObj) : l.map (AObj.sub _root_.id) = l := by
 have : AObj.sub _root_.id = (_root_.id : AObj → AObj) := by funext p; exact AObj.sub_id p
 rw [this, List.map_id]
theorem Zbu {t kt et : Nat} {y z q : Operand} (ho : o.op = .mapUpdate t y z q) (hm : P.underlying t = some (.map kt et)) (hkt : P.underlying kt = some .string)
  {id : Nat} {k : List Nat} (hy : s.ev y = .nm id k) {b : ByteArray} (hz : s.ev z = .v (.string b)) {u : Value} (hu : AV.le (s.ev q) (Z53 u)) {es : List (ByteArray × Value)} (hq : s.heap[id]? = some (.mapo es)) (hd : dOK X.n o.dst)
  (hK : K (St.put { s with heap := s.heap.set id (.mapo (Z3m b u es)) } o.dst .any)) : opWP P X o K s := by
 refine opWP.unit (fun σ F a w hr => ?_) hd
 obtain ⟨g, arr, clock, h1, h2, h3, hmi⟩ := Zjq hr hy hq
 obtain ⟨es0, h4, hp0⟩ := hmi.1
 have hz' : a.eval z = .string b := RepV.val (hz ▸ hr.ev z)
 have hu' : a.eval q = u := RepV.ofValAV (RepV.le hu (hr.ev q))
 have hck := MapKept.run_checkKey (P := P) (w := w) (k := .string b) hkt trivial false 9999
 have hid : id < s.heap.length := (List.getElem?_eq_some_iff.1 hq).1
 have hupd : upd σ id (σ id) = σ := by
  funext i
  by_cases e : i = id
  ·subst e; exact Z3 _ _ _
  ·exact Zb _ _ e
 have fin : ∀ (arr' : Array MapEntry) (clock' : Nat), MapIs arr' clock' (Z3m b u es) → (execOp a.eval o).run P w = .ok .skip { w with heap := w.heap.setIfInBounds g (.map arr' clock') } →
   ∃ w' σ' F' s', (execOp a.eval o).run P w = .ok .skip w' ∧ RepAt X σ' F' s' a w' ∧ K (s'.put o.dst .any) := by
  intro arr' clock' h5 h6
  obtain ⟨h7, h8⟩ := MapKept.heap_set (o' := .map arr' clock') h3
  have hown : hasB σ id g := ⟨_, h1, rfl⟩
  have hFF : ∀ b, F b → (w.heap.setIfInBounds g (.map arr' clock'))[b]? = w.heap[b]? := fun b hb => h8 b (fun e => (hr.heap.lt _ _ hown).2 (e ▸ hb))
  have hch := hr.change (w' := { w with heap := w.heap.setIfInBounds g (.map arr' clock') }) (F' := F) hid (k := σ id) (f := _root_.id) (ob := .mapo (Z3m b u es)) rfl rfl rfl (by simp) (fun g' _ hn => h8 g' (fun e => hn (e ▸ hown))) (fun _ h => h) (fun _ h => .inl h)
   (fun q g' hq' hg' => by
    have hb : hasB σ id g' := ⟨q, hq', hg'⟩
    exact ⟨by simpa using (hr.heap.lt _ _ hb).1, (hr.heap.lt _ _ hb).2, .inl hb⟩)
   (fun i sz off len y h => by rw [hupd]; exact h.mono (fun _ h => h) hFF)
   (fun i q sz j y h => by rw [hupd]; exact h.mono (fun _ h => h) hFF)
   (fun i q y h => by rw [hupd]; exact h.mono (fun _ h => h) hFF)
   (fun _ => .inl rfl) (by rw [hupd]; exact ⟨g, arr', clock', h1, h7, h5⟩)
  rw [Z5l, Zgk] at hch
  exact ⟨_, _, F, _, h6, hch, hK⟩
 rcases Z4g b arr.toList es0 0 h4 with ⟨h5, h6, h7⟩ | ⟨j, e, h5, h6, h7, h8, h9⟩
 ·have hf := MapKept.run_findKey (P := P) (w := w) hkt h5
  refine fin (arr.push { key := .string b, val := u, born := clock }) (clock + 1) ?_ ?_
  ·exact hmi.push h4 hp0 (h7 u)
  ·simp [execOp, ho, h2, hz', hu', Instr.mapUpdate, run_underlying hm, MapKept.run_getObj_map h3, hck, hf, MapKept.run_setObj_map _ h3, Sem.run_bind, Result.andThen]
 ·rw [Nat.zero_add] at h5
  have hf := MapKept.run_findKey (P := P) (w := w) hkt h5
  have hget : (Option.map (fun x : MapEntry => x.key) arr[j]?).getD (.string b) = .string b := by
   rw [← Array.getElem?_toList, h7]; simp [h8]
  have hstay : (Instr.keyThatStays (.string b) (.string b)).run P w = .ok (.string b) w := MapKept.run_keyThatStays (d := .string) trivial
  refine fin (arr.modify j fun e => { e with key := .string b, val := u }) clock ?_ ?_
  ·exact hmi.modify hp0 (h9 u)
  ·simp [execOp, ho, h2, hz', hu', Instr.mapUpdate, run_underlying hm, MapKept.run_getObj_map h3, hck, hf, hget, hstay, MapKept.run_setObj_map _ h3, Sem.run_bind, Result.andThen]
end
end Go.Proofs.YtcphmeggalaplaaDoor.Eng
set_option linter.unusedVariables false
set_option linter.unusedSimpArgs false
namespace Go.Proofs.YtcphmeggalaplaaDoor.Eng
open Go Go.RowKit
section
variable {P : Program} {T : Tab} {X : Ctx} {σ σ' : Nat → Option Blk} {F F' : Nat → Prop} {s s' : St} {a : Act} {w w' : World} {o : Oper} {c : Prop} {x : AV} {v : Value} {K : St → Prop}
theorem RepAt.change2 (hr : RepAt X σ F s a w) {id : Nat} (hid : id < s.heap.length) {k : Option Blk} {f : AV → AV} {ob : AObj} (ho : w'.os = w.os) (ht : w'.tape = w.tape) (hp : w'.output = w.output) (hz : w.heap.size ≤ w'.heap.size)
  (hblk : ∀ g, g < w.heap.size → ¬ hasB σ id g → w'.heap[g]? = w.heap[g]?) (hF : ∀ b, F b → F' b) (hF' : ∀ b, F' b → F b ∨ hasB σ id b)
  (hk : ∀ q g, k = some q → q.has g → g < w'.heap.size ∧ ¬ F' g ∧ (∀ i, i ≠ id → ¬ hasB σ i g) ∧ (X.M g ∨ X.w0.heap.size ≤ g))
  (hfo : ∀ i sz off len y, RepV σ F w (.own i sz off len) y → RepV (upd σ id k) F' w' (f (.own i sz off len)) y) (hfp : ∀ i q sz j y, RepV σ F w (.ptr i q sz j) y → RepV (upd σ id k) F' w' (f (.ptr i q sz j)) y)
  (hfn : ∀ i q y, RepV σ F w (.nm i q) y → RepV (upd σ id k) F' w' (f (.nm i q)) y)
  (hst : id < X.m → k = σ id ∨ k = none) (hob : RepO (upd σ id k) F' w' id ob) : RepAt X (upd σ id k) F' ⟨Zt f s.env, (s.heap.map (AObj.sub f)).set id ob⟩ a w' := by
 have hFw : ∀ b, F b → w'.heap[b]? = w.heap[b]? := fun b hb => hblk b (hr.heap.flt b hb) (fun h => (hr.heap.lt _ _ h).2 hb)
 have hRF : ∀ x y, RepF F w x y → RepF F' w' x y := fun x y h => h.mono hF hFw
 have hRV : ∀ x y, RepV σ F w x y → RepV (upd σ id k) F' w' (x.sub f) y := fun x y h => h.sub hRF hfo hfp hfn
 have hne : ∀ i g, i ≠ id → hasB σ i g → ¬ hasB σ id g := fun i g hi h h' => hi (hr.heap.inj _ _ _ h h')
 have hcase : ∀ i g, hasB (upd σ id k) i g → (i = id ∧ g < w'.heap.size ∧ ¬ F' g ∧ (∀ i, i ≠ id → ¬ hasB σ i g) ∧ (X.M g ∨ X.w0.heap.size ≤ g)) ∨ (i ≠ id ∧ hasB σ i g) := fun i g h => by
  by_cases e : i = id
  ·subst e
   obtain ⟨q, h1, h2⟩ := Z2i.1 h
   exact .inl ⟨rfl, hk q g h1 h2⟩
  ·exact .inr ⟨e, (Z1q e).1 h⟩
 refine ⟨hr.defers.keep fun D hD hn => ⟨hblk D (Z19 hD) (fun h => hr.heap.nodef h hD), fun h => (hF' D h).elim hn (fun h => hr.heap.nodef h hD)⟩, hr.size, fun i => by rw [Zw]; exact hRV _ _ (hr.env i), ⟨fun i q hq => ?_, fun i hi => ?_, fun i i' g h1 h2 => ?_, fun i g h => ?_, fun b hb => ?_, hr.heap.lay.mono hF hFw⟩, ?_, fun i g h => ?_, fun b hb => ?_, fun i hi => ?_, by have := hr.hm; simp; omega⟩
 ·by_cases hi : i = id
  ·subst hi
   rw [List.getElem?_set_self (by simpa using hid)] at hq
   injection hq with hq
   subst hq
   exact hob
  ·rw [List.getElem?_set_ne (by omega), List.getElem?_map, Option.map_eq_some_iff] at hq
   obtain ⟨q', hq', rfl⟩ := hq
   refine (hr.heap.obj i q' hq').move (fun k' h => by rw [Zb _ _ hi]; exact h) (fun h => by rw [Zb _ _ hi]; exact h) hRF (fun b hb => ⟨hF b hb, hFw b hb⟩) (fun g h => hblk g (hr.heap.lt _ _ h).1 (hne i g hi h)) hRV
 ·simp at hi
  rw [Zb _ _ (by omega)]
  exact hr.heap.out i hi
 ·rcases hcase _ _ h1 with ⟨e1, g1, g2, g3⟩ | ⟨e1, h3⟩ <;> rcases hcase _ _ h2 with ⟨e2, g4, g5, g6⟩ | ⟨e2, h4⟩
  ·rw [e1, e2]
  ·exact absurd h4 (g3.1 _ e2)
  ·exact absurd h3 (g6.1 _ e1)
  ·exact hr.heap.inj _ _ _ h3 h4
 ·rcases hcase _ _ h with ⟨e1, g1, g2, g3⟩ | ⟨e1, h3⟩
  ·exact ⟨g1, g2⟩
  ·have h1 := hr.heap.lt _ _ h3
   refine ⟨Nat.lt_of_lt_of_le h1.1 hz, fun h2 => ?_⟩
   rcases hF' g h2 with h4 | h4
   ·exact h1.2 h4
   ·exact hne _ _ e1 h3 h4
 ·rcases hF' b hb with h3 | h3
  ·exact Nat.lt_of_lt_of_le (hr.heap.flt b h3) hz
  ·exact Nat.lt_of_lt_of_le (hr.heap.lt _ _ h3).1 hz
 ·refine ⟨ho.trans hr.keep.os, ht.trans hr.keep.tape, hp.trans hr.keep.output, Nat.le_trans hr.keep.size hz, fun g hg hm => ?_⟩
  refine (hblk g (Nat.lt_of_lt_of_le hg hr.keep.size) (fun h => ?_)).trans (hr.keep.block g hg hm)
  rcases hr.own _ _ h with h1 | h1
  ·exact hm h1
  ·omega
 ·rcases hcase _ _ h with ⟨e1, g1, g2, g3⟩ | ⟨e1, h3⟩
  ·exact g3.2
  ·exact hr.own _ _ h3
 ·rcases hF' b hb with h3 | h3
  ·exact hr.fnew b h3
  ·rcases hr.own _ _ h3 with h4 | h4
   ·exact .inr (.inl h4)
   ·exact .inr (.inr h4)
 ·by_cases e1 : i = id
  ·subst e1
   rw [Z3]
   rcases hst hi with h | h
   ·rw [h]; exact hr.stab i hi
   ·exact .inr h
  ·rw [Zb _ _ e1]
   exact hr.stab i hi
theorem Z1k {id : Nat} {k : Option Blk} : ∀ i sz off len y, RepV σ F w (.own i sz off len) y → RepV (upd σ id k) F' w' (Z6 id (.own i sz off len)) y := by
 intro i sz off len y h
 simp only [Z6]
 by_cases e : i = id
 ·rw [if_pos e]; exact .f _ _ (.any _)
 ·rw [if_neg e]
  have hs := Zb σ k e
  cases h with
  | f _ _ h => cases h
  | own0 _ _ h => exact .own0 _ _ (hs.trans h)
  | own _ _ _ _ g b c n h hn hc => exact .own _ _ _ _ g b c n (hs.trans h) hn hc
  | ownz _ _ _ g b c n a h hn hc => exact .ownz _ _ _ g b c n a (hs.trans h) hn hc
theorem Z1j {id : Nat} {k : Option Blk} : ∀ i q sz j y, RepV σ F w (.ptr i q sz j) y → RepV (upd σ id k) F' w' (Z6 id (.ptr i q sz j)) y := by
 intro i q sz j y h
 simp only [Z6]
 by_cases e : i = id
 ·rw [if_pos e]; exact .f _ _ (.any _)
 ·rw [if_neg e]
  have hs := Zb σ k e
  cases h with
  | f _ _ h => cases h
  | ptr _ _ _ _ g b c n h => exact .ptr _ _ _ _ g b c n (hs.trans h)
def Z3v (id : Nat) : AV → AV
 | .own i sz off len => if i = id then .any else .own i sz off len
 | .ptr i k sz j => if i = id then .any else .ptr i k sz j
 | .nm i k => if i = id then (match k with | [0] => .nm i [0] | [2, j] => .nm i [2, j] | _ => .any) else .nm i k
 | x => x
theorem Za2 {id : Nat} {k : Option Blk} : ∀ i sz off len y, RepV σ F w (.own i sz off len) y → RepV (upd σ id k) F' w' (Z3v id (.own i sz off len)) y := fun i sz off len y h => Z1k (id := id) i sz off len y h
theorem Za1 {id : Nat} {k : Option Blk} : ∀ i q sz j y, RepV σ F w (.ptr i q sz j) y → RepV (upd σ id k) F' w' (Z3v id (.ptr i q sz j)) y := fun i q sz j y h => Z1j (id := id) i q sz j y h
theorem Zdm {id : Nat} {gs gs' : Nat → Prop} {V V' : List Nat → Value} (hσ : σ id = some (.ext gs V)) (h0 : V' [0] = V [0]) (h2 : ∀ j, V' [2, j] = V [2, j]) : ∀ i q y, RepV σ F w (.nm i q) y → RepV (upd σ id (some (.ext gs' V'))) F' w' (Z3v id (.nm i q)) y := by
 intro i q y h
 simp only [Z3v]
 by_cases e : i = id
 ·subst e
  rw [if_pos rfl]
  cases h with
  | f _ _ h => cases h
  | nm _ _ gs1 V1 h h1 =>
   rw [hσ] at h
   injection h with h
   injection h with e1 e2
   subst e2
   split
   ·rw [← h0]; exact .nm _ _ gs' V' (Z3 _ _ _) (by rw [h0]; exact h1)
   ·rw [← h2]; exact .nm _ _ gs' V' (Z3 _ _ _) (by rw [h2]; exact h1)
   ·exact .f _ _ (.any _)
 ·rw [if_neg e]
  have hs := Zb σ (some (.ext gs' V')) e
  cases h with
  | f _ _ h => cases h
  | nm _ _ gs V h h1 => exact .nm _ _ gs V (hs.trans h) h1
structure Turn (q k : Blk) (F : Nat → Prop) (w w' : World) : Prop where
 os : w'.os = w.os
 tape : w'.tape = w.tape
 output : w'.output = w.output
 size : w.heap.size ≤ w'.heap.size
 blk : ∀ g, g < w.heap.size → ¬ q.has g → w'.heap[g]? = w.heap[g]?
 has : ∀ g, k.has g → g < w'.heap.size ∧ ¬ F g ∧ (q.has g ∨ w.heap.size ≤ g)
theorem Z8g {t t' e : Nat} {y z : Operand} (ho : o.op = .call { callee := .builtin .append, args := #[y, z], argTypes := #[t, t'] }) (hT : Zf P T) {m p : Nat} {zv : Value} (ht : T t = some ⟨.slice e, m, p, zv⟩) {ti : TI} (hti : T e = some ti)
  (ht' : (∃ e' m' p' z', T t' = some ⟨.slice e', m', p', z'⟩) ∨ ∃ m' p' z', T t' = some ⟨.str, m', p', z'⟩) {q : Blk} {es : List (List AV)} (hq : RowRep q F w e ti.size es)
  {news : List (List AV)} {new : List Value} (hs : Src P w ti.size news.length (a.eval z) new) (hnl : ∀ cs ∈ news, cs.length = ti.size) (hnr : ∀ i cs j x, news[i]? = some cs → cs[j]? = some x → ∃ u, new[i * ti.size + j]? = some u ∧ u.oneCell' = true ∧ RepF F w x u)
  (hsz : 0 < ti.size) (hby : 0 < ti.bytes) (hfit : (es.length + news.length) * ti.bytes ≤ 140737488355328)
  (hqF : ∀ g, q.has g → g < w.heap.size ∧ ¬ F g) (hflt : ∀ b, F b → b < w.heap.size) (hyr : HdrRep q F w ti.size es.length (a.eval y)) :
  ∃ v w' k, (execOp a.eval o).run P w = .ok (.value v) w' ∧ Turn q k F w w' ∧ RowRep k F w' e ti.size (es ++ news) ∧ HdrRep k F w' ti.size (es.length + news.length) v := by
 have hu : P.underlying t = some (.slice e) := (hT _ _ ht).kind
 have hz' := hT _ _ hti
 have hu' : (∃ e', P.underlying t' = some (.slice e')) ∨ P.underlying t' = some .string := by
  rcases ht' with ⟨e', _, _, _, h⟩ | ⟨_, _, _, h⟩
  ·exact .inl ⟨e', (hT _ _ h).kind⟩
  ·exact .inr (hT _ _ h).kind
 have hrun : ∀ V w', (Builtin.append_ #[t, t'] o.type #[a.eval y, a.eval z]).run P w = .ok V w' → (execOp a.eval o).run P w = .ok (.value V) w' := fun V w' h => by
  simp [execOp, ho, resolve, invoke, builtin, h]
 have hmax : es.length + news.length ≤ 140737488355328 := Nat.le_trans (Nat.le_mul_of_pos_right _ hby) hfit
 have hcomb : ∀ cs ∈ es ++ news, (∀ cs ∈ es, cs.length = ti.size) → cs.length = ti.size := fun cs hcs h => by
  rcases List.mem_append.1 hcs with h1 | h1
  ·exact h cs h1
  ·exact hnl cs h1
 have out : ∀ (A : Option Addr) (cp : Nat) (old : List Value), a.eval y = .slice A es.length cp → cp < es.length + news.length → old.length = es.length * ti.size → (∀ cs ∈ es, cs.length = ti.size) →
   (∀ ad, A = some ad → ∀ j u, old[j]? = some u → w.cell? (ad.add j) = some u) → (A = none → old = []) →
   (∀ i cs j x, es[i]? = some cs → cs[j]? = some x → ∃ u, old[i * ti.size + j]? = some u ∧ u.oneCell' = true ∧ RepF F w x u) →
   ∃ v w' k, (execOp a.eval o).run P w = .ok (.value v) w' ∧ Turn q k F w w' ∧ RowRep k F w' e ti.size (es ++ news) ∧ HdrRep k F w' ti.size (es.length + news.length) v := by
  intro A cp old hA hlt hol hes hcell hnone hold
  have hr1 := Z4o (P := P) (ty := o.type) hu hu' hz' hby hs hlt hfit (Z4s (w := w.drew) hol (fun ad h => by simpa using hcell ad h) hnone)
  rw [← hA] at hr1
  have hge := grownCap_ge w (es.length + news.length) cp e
  have hcm := grownCap_le_maxLen w (es.length + news.length) cp e (by simp only [maxLen]; omega)
  let cur : Array Value := old.toArray ++ new.toArray ++ Builtin.zeroCells ti.zero.cells (grownCap w (es.length + news.length) cp e - (es.length + news.length))
  let w1 := w.drew.alloc (.cells cur e)
  have hE : Ext w w1 := ⟨rfl, rfl, rfl, by simp [w1], fun b hb _ => by
   have : (w.drew.alloc (.cells cur e)).heap[b]? = w.drew.heap[b]? := Below.heap_alloc w.drew _ b hb
   exact this⟩
  have hF : ∀ b, F b → w1.heap[b]? = w.heap[b]? := fun b hb => hE.block b (hflt b hb) (fun h => h)
  have hRF : ∀ x y, RepF F w x y → RepF F w1 x y := fun x y h => h.mono (fun _ h => h) hF
  have hcs : cur.size = (0 + grownCap w (es.length + news.length) cp e) * ti.size := by
   simp only [cur, Array.size_append, List.size_toArray, size_zeroCells, hz'.cells, hol, hs.size, ← Nat.add_mul]
   congr 1; omega
  have hget : ∀ q u, (old ++ new)[q]? = some u → cur[q]? = some u := fun q u hq => by
   have : cur.toList = (old ++ new) ++ (Builtin.zeroCells ti.zero.cells (grownCap w (es.length + news.length) cp e - (es.length + news.length))).toList := by simp [cur]
   rw [← Array.getElem?_toList, this, List.getElem?_append_left (List.getElem?_eq_some_iff.1 hq).1]
   exact hq
  refine ⟨_, w1, .at_ w.heap.size 0 (grownCap w (es.length + news.length) cp e) (es.length + news.length), hrun _ _ hr1, ⟨hE.os, hE.tape, hE.output, hE.size, fun g hg _ => hE.block g hg (fun h => h), ?_⟩, ?_, ?_⟩
  ·intro g hg
   have e1 : g = w.heap.size := hg
   subst e1
   exact ⟨by simp [w1], fun hF => by have := hflt _ hF; omega, .inr (Nat.le_refl _)⟩
  ·refine .inr ⟨w.heap.size, 0, _, cur, by rw [List.length_append], by rw [List.length_append]; exact hge, by simpa using hcm, heap_alloc_new w.drew _, hcs, fun cs hcs => hcomb cs hcs hes, fun i cs j x hi hj => ?_⟩
   rcases Nat.lt_or_ge i es.length with hlt' | hge'
   ·rw [List.getElem?_append_left (by omega)] at hi
    obtain ⟨u, h1, h2, h3⟩ := hold i cs j x hi hj
    refine ⟨u, hget _ _ ?_, h2, hRF _ _ h3⟩
    rw [Nat.zero_add, List.getElem?_append_left (List.getElem?_eq_some_iff.1 h1).1]
    exact h1
   ·rw [List.getElem?_append_right (by omega)] at hi
    obtain ⟨u, h1, h2, h3⟩ := hnr (i - es.length) cs j x hi hj
    refine ⟨u, hget _ _ ?_, h2, hRF _ _ h3⟩
    have : (0 + i) * ti.size + j = old.length + ((i - es.length) * ti.size + j) := by
     rw [hol, Nat.zero_add, ← Nat.add_assoc, ← Nat.add_mul]
     congr 2; omega
    rw [this, List.getElem?_append_right (by omega), Nat.add_sub_cancel_left]
    exact h1
  ·have := RepV.own (σ := fun _ => some (.at_ w.heap.size 0 (grownCap w (es.length + news.length) cp e) (es.length + news.length))) (F := F) (w := w1) 0 ti.size 0 (es.length + news.length) w.heap.size 0 (grownCap w (es.length + news.length) cp e) (es.length + news.length) rfl (by omega) hge
   unfold HdrRep
   simpa using this
 rcases RepV.ownv hyr with ⟨h1, _, h3, hv⟩ | ⟨g, b, cp, n, h1, _, hcp, hv⟩
 ·
  injection h1 with h1
  subst h1
  have hes : es = [] := List.eq_nil_of_length_eq_zero (by omega)
  subst hes
  rcases Nat.eq_zero_or_pos news.length with h0 | h0
  ·have hnews : news = [] := List.eq_nil_of_length_eq_zero h0
   subst hnews
   have hr1 := Z2a (P := P) (ty := o.type) (w' := w) hu hu' hz' hs (A := none) (n := 0) (cp := 0) (by simp) (fun ad h => by cases h) (fun _ => rfl)
   rw [← hv] at hr1
   exact ⟨_, w, .nil, hrun _ _ hr1, ⟨rfl, rfl, rfl, Nat.le_refl _, fun _ _ _ => rfl, fun g h => h.elim⟩, .inl ⟨rfl, rfl⟩, .own0 0 ti.size rfl⟩
  ·exact out none 0 [] (by rw [hv]; rfl) (by simpa using h0) (by simp) (by simp) (fun ad h => by cases h) (fun _ => rfl) (fun i cs j x hi => by simp at hi)
 ·injection h1 with h1
  subst h1
  obtain ⟨rfl, hle, hbc, cur, hg, hcsz, hes, hcell⟩ := hq.at
  have hA : ∃ A, a.eval y = .slice A es.length cp ∧ ((A = some ⟨g, b * ti.size, none⟩) ∨ (es.length = 0 ∧ cp = 0)) := by
   rcases hv with hv | ⟨h3, h4, h5, A, hv⟩
   ·exact ⟨_, by simpa using hv, .inl rfl⟩
   ·exact ⟨A, by rw [hv, h3, ← h5, ← h4], .inr ⟨h3, by omega⟩⟩
  obtain ⟨A, hv', hA⟩ := hA
  have hgq : (Blk.at_ g b cp es.length).has g := rfl
  by_cases hroom : es.length + news.length ≤ cp
  ·
   let cur' : Array Value := (cur.toList.take ((b + es.length) * ti.size) ++ new ++ cur.toList.drop ((b + es.length) * ti.size + new.length)).toArray
   have hfitc : (b + es.length) * ti.size + new.length ≤ cur.size := by
    rw [hs.size, ← Nat.add_mul, hcsz]
    exact Nat.mul_le_mul_right _ (by omega)
   have hst : ∀ ad, A = some ad → (storeCells (ad.add (es.length * ti.size)) new).run P w = .ok () (if A = none then w else w.setRow g cur') := by
    intro ad had
    rw [if_neg (by rw [had]; simp)]
    rcases hA with hA | ⟨h3, h4⟩
    ·rw [had] at hA
     injection hA with hA
     subst hA
     rw [Zp, ← Nat.add_mul]
     exact run_storeCells_at (P := P) g ((b + es.length) * ti.size) e new 0 cur w hg (by simpa using hfitc) hs.one
    ·have hn0 : new = [] := List.eq_nil_of_length_eq_zero (by rw [hs.size]; rw [show news.length = 0 from by omega, Nat.zero_mul])
     subst hn0
     simp only [storeCells, Sem.run_pure]
     have : cur' = cur := by simp only [cur']; rw [List.append_nil, List.length_nil, Nat.add_zero, List.take_append_drop]
     rw [this, setRow_self w g cur e (0, 0) hg]
   have hr1 := Z2a (P := P) (ty := o.type) (w' := if A = none then w else w.setRow g cur') hu hu' hz' hs (A := A) (n := es.length) (cp := cp) hroom hst (fun h => by rw [if_pos h])
   rw [← hv'] at hr1
   have hwne : (if A = none then w else w.setRow g cur') = w.setRow g cur' := by
    split
    ·rename_i hAn
     rcases hA with hA | ⟨h3, h4⟩
     ·rw [hAn] at hA; cases hA
     ·have hn0 : new = [] := List.eq_nil_of_length_eq_zero (by rw [hs.size]; rw [show news.length = 0 from by omega, Nat.zero_mul])
      have : cur' = cur := by simp only [cur', hn0]; rw [List.append_nil, List.length_nil, Nat.add_zero, List.take_append_drop]
      rw [this, setRow_self w g cur e (0, 0) hg]
    ·rfl
   rw [hwne] at hr1
   have hgF : ¬ F g := (hqF g hgq).2
   have hRF : ∀ x y, RepF F w x y → RepF F (w.setRow g cur') x y := fun x y h => h.mono (fun _ h => h) (fun b hb => setRow_other w g b _ (fun e => hgF (e ▸ hb)))
   have hnewg : (w.setRow g cur').heap[g]? = some (.cells cur' e (0, 0)) := setRow_heap w g cur _ e _ hg
   have hcs' : cur'.size = (b + cp) * ti.size := by
    have : cur'.size = cur.size := by simp only [cur', List.size_toArray, List.length_append, List.length_take, List.length_drop, Array.length_toList]; omega
    rw [this, hcsz]
   have hget1 : ∀ q, q < (b + es.length) * ti.size → cur'[q]? = cur[q]? := fun q hq => by
    simp only [cur', List.getElem?_toArray]
    rw [List.append_assoc, List.getElem?_append_left (by simp; omega), List.getElem?_take, if_pos hq, Array.getElem?_toList]
   have hget2 : ∀ q u, new[q]? = some u → cur'[(b + es.length) * ti.size + q]? = some u := fun q u hq => by
    have hl : q < new.length := (List.getElem?_eq_some_iff.1 hq).1
    have hl2 : (cur.toList.take ((b + es.length) * ti.size)).length = (b + es.length) * ti.size := by simp; omega
    simp only [cur', List.getElem?_toArray]
    rw [List.append_assoc, List.getElem?_append_right (by omega), hl2, Nat.add_sub_cancel_left, List.getElem?_append_left hl]
    exact hq
   refine ⟨_, w.setRow g cur', .at_ g b cp (es.length + news.length), hrun _ _ hr1, ⟨rfl, rfl, rfl, by simp, fun g1 hg1 hne => setRow_other w g g1 _ (fun e => hne e), fun g1 hg1 => ?_⟩, ?_, ?_⟩
   ·have e1 : g1 = g := hg1
    subst e1
    exact ⟨by simpa using (hqF g1 hgq).1, hgF, .inl rfl⟩
   ·refine .inr ⟨g, b, cp, cur', by rw [List.length_append], by rw [List.length_append]; exact hroom, hbc, hnewg, hcs', fun cs hcs => hcomb cs hcs hes, fun i cs j x hi hj => ?_⟩
    have hjs : j < ti.size := by
     have := (List.getElem?_eq_some_iff.1 hj).1
     rw [hcomb cs (List.mem_of_getElem? hi) hes] at this
     exact this
    rcases Nat.lt_or_ge i es.length with hlt' | hge'
    ·rw [List.getElem?_append_left (by omega)] at hi
     obtain ⟨u, h3, h4, h5⟩ := hcell i cs j x hi hj
     refine ⟨u, ?_, h4, hRF _ _ h5⟩
     rw [hget1]
     ·exact h3
     ·have : (b + i + 1) * ti.size ≤ (b + es.length) * ti.size := Nat.mul_le_mul_right _ (by omega)
      rw [Nat.succ_mul] at this
      omega
    ·rw [List.getElem?_append_right (by omega)] at hi
     obtain ⟨u, h3, h4, h5⟩ := hnr (i - es.length) cs j x hi hj
     refine ⟨u, ?_, h4, hRF _ _ h5⟩
     have : (b + i) * ti.size + j = (b + es.length) * ti.size + ((i - es.length) * ti.size + j) := by
      rw [← Nat.add_assoc, ← Nat.add_mul]
      congr 2; omega
     rw [this]
     exact hget2 _ _ h3
   ·by_cases hz0 : cp = 0
    ·have hl0 : es.length = 0 := by omega
     have hn0 : news.length = 0 := by omega
     have := RepV.ownz (σ := fun _ => some (Blk.at_ g b cp (es.length + news.length))) (F := F) (w := w.setRow g cur') 0 ti.size 0 g b cp (es.length + news.length) A rfl (by omega) (by omega)
     unfold HdrRep
     rw [hl0, hn0, hz0] at this ⊢
     exact this
    ·rcases hA with hA | ⟨h3, h4⟩
     ·have := RepV.own (σ := fun _ => some (Blk.at_ g b cp (es.length + news.length))) (F := F) (w := w.setRow g cur') 0 ti.size 0 (es.length + news.length) g b cp (es.length + news.length) rfl (by omega) hroom
      rw [hA]
      unfold HdrRep
      simpa using this
     ·omega
  ·
   rcases hA with hA | ⟨h3, h4⟩
   ·subst hA
    have hVc : ∀ i j, i < es.length → j < ti.size → ∃ cs x u, es[i]? = some cs ∧ cs[j]? = some x ∧ cur[(b + i) * ti.size + j]? = some u ∧ u.oneCell' = true ∧ RepF F w x u := fun i j hi hj => by
     have hj2 : j < es[i].length := by rw [hes _ (List.getElem_mem hi)]; exact hj
     obtain ⟨u, h5, h6, h7⟩ := hcell i es[i] j es[i][j] (List.getElem?_eq_getElem hi) (List.getElem?_eq_getElem hj2)
     exact ⟨_, _, u, List.getElem?_eq_getElem hi, List.getElem?_eq_getElem hj2, h5, h6, h7⟩
    refine out _ cp (Z1w (fun i j => (cur[(b + i) * ti.size + j]?).getD undef) es.length ti.size) hv' (by omega) (Zj _ _ _) hes (fun ad had q u hq => ?_) (fun h => by cases h) (fun i cs j x hi hj => ?_)
    ·injection had with had
     subst had
     have hlt : q < es.length * ti.size := by have := (List.getElem?_eq_some_iff.1 hq).1; rwa [Zj] at this
     obtain ⟨i, j, hi, hj, rfl⟩ := Zo hlt
     rw [Zk _ hi hj] at hq
     injection hq with hq
     obtain ⟨_, _, u', _, _, h5, _⟩ := hVc i j hi hj
     rw [h5, Option.getD_some] at hq
     subst hq
     rw [Zp, ← Nat.add_assoc, ← Nat.add_mul]
     simp [World.cell?, hg, h5]
    ·have hi' : i < es.length := (List.getElem?_eq_some_iff.1 hi).1
     have hj' : j < ti.size := by have := (List.getElem?_eq_some_iff.1 hj).1; rw [hes cs (List.mem_of_getElem? hi)] at this; exact this
     obtain ⟨u, h5, h6, h7⟩ := hcell i cs j x hi hj
     refine ⟨u, ?_, h6, h7⟩
     rw [Zk _ hi' hj', h5, Option.getD_some]
   ·have hl0 : es = [] := List.eq_nil_of_length_eq_zero (by omega)
    exact out A cp [] hv' (by omega) (by rw [h3]; simp) hes (fun _ _ j u h => by simp at h) (fun _ => rfl) (fun i cs j x hi => by rw [hl0] at hi; simp at hi)
def Z65 (k : Blk) (sz i c : Nat) : Value := match k with
 | .at_ g b _ _ => .pointer (some ⟨g, (b + i) * sz + c, none⟩)
 | _ => undef
theorem Z4c (k : Blk) (sz : Nat) : Zjz k sz (Z65 k sz) := fun g b c n h i j => by subst h; rfl
def Z7r (V : List Nat → Value) (q sz : Nat) (k : Blk) (v : Value) : List Nat → Value
 | [4] => v
 | [3, j, i, c] => if j = q then Z65 k sz i c else V [3, j, i, c]
 | l => V l
theorem Zdh {t t' e : Nat} {y z : Operand} (ho : o.op = .call { callee := .builtin .append, args := #[y, z], argTypes := #[t, t'] }) (hT : Zf P T) {m p : Nat} {zv : Value} (ht : T t = some ⟨.slice e, m, p, zv⟩) {ti : TI} (hti : T e = some ti)
  (ht' : (∃ e' m' p' z', T t' = some ⟨.slice e', m', p', z'⟩) ∨ ∃ m' p' z', T t' = some ⟨.str, m', p', z'⟩) {id q : Nat} (hy : s.ev y = .nm id [1, q]) {e0 : Nat} {es : List (List (List AV))} (hq : s.heap[id]? = some (.tree e0 e ti.size none es)) {row : List (List AV)} (hrow : es[q]? = some row)
  {news : List (List AV)} (hz : Z1z s ti.size (s.ev z) = some (c, news)) (hc : c) (hsz : 0 < ti.size) (hby : 0 < ti.bytes) (hfit : (row.length + news.length) * ti.bytes ≤ 140737488355328) (hm : X.m ≤ id) (hd : dOK X.n o.dst)
  (hK : K (St.put ⟨Zt (Z3v id) s.env, (s.heap.map (AObj.sub (Z3v id))).set id (.tree e0 e ti.size (some q) (es.set q (row ++ news)))⟩ o.dst (.nm id [4]))) : opWP P X o K s := by
 refine opWP.mem (fun σ F a w hr => ?_) hd
 have hid : id < s.heap.length := (List.getElem?_eq_some_iff.1 hq).1
 obtain ⟨R, B, V, h1, h2, h3, h4⟩ := Z25 hr hy hq
 have hql : q < es.length := (List.getElem?_eq_some_iff.1 hrow).1
 obtain ⟨new, hs, hnl, hnr⟩ := Zjn (P := P) hr hz hc
 have hown : ∀ g, Z15 R B g → hasB σ id g := fun g hg => ⟨_, h1, hg⟩
 obtain ⟨v, w', k, h5, h6, h7, h8⟩ := Z8g ho hT ht hti ht' (h4.row q row hrow) hs hnl hnr hsz hby hfit (fun g hg => hr.heap.lt _ _ (hown g (.inr ⟨q, hg⟩))) hr.heap.flt (h2 ▸ h4.hdr q row hrow (by simp))
 have hv1 : v.oneCell' = true := by obtain ⟨A, c, rfl⟩ := h8.slice; rfl
 have hRF : ∀ x y, RepF F w x y → RepF F w' x y := fun x y h => h.mono (fun _ h => h) (fun b hb => h6.blk b (hr.heap.flt b hb) (fun hg => (hr.heap.lt _ _ (hown b (.inr ⟨q, hg⟩))).2 hb))
 let B' : Nat → Blk := fun j => if j = q then k else B j
 have hB' : ∀ j g, (B' j).has g → (j = q ∧ k.has g) ∨ (j ≠ q ∧ (B j).has g) := fun j g hg => by
  simp only [B'] at hg
  by_cases hj : j = q
  ·rw [if_pos hj] at hg; exact .inl ⟨hj, hg⟩
  ·rw [if_neg hj] at hg; exact .inr ⟨hj, hg⟩
 have hnew : ∀ g j, k.has g → j ≠ q → ¬ (B j).has g := fun g j hg hj hb => by
  rcases (h6.has g hg).2.2 with h9 | h9
  ·exact hj (h4.inj _ _ _ hb h9)
  ·have := (hr.heap.lt _ _ (hown g (.inr ⟨j, hb⟩))).1; omega
 have hnewR : ∀ g, k.has g → ¬ R.has g := fun g hg hb => by
  rcases (h6.has g hg).2.2 with h9 | h9
  ·exact h4.apart _ _ hb h9
  ·have := (hr.heap.lt _ _ (hown g (.inl hb))).1; omega
 have hkeep : ∀ g, Z15 R B g → ¬ (B q).has g → w'.heap[g]? = w.heap[g]? := fun g hg hn => h6.blk g (hr.heap.lt _ _ (hown g hg)).1 hn
 have hT' : TreeRep F w' e0 e ti.size (some q) (es.set q (row ++ news)) R B' (Z7r V q ti.size k v) := by
  refine ⟨?_, ?_, fun g b c n hR i => h4.rptr g b c n hR i, fun j r hj => ?_, fun j r hj hne => ?_, fun j hj => ?_, fun j => ?_, fun j hj => ?_, fun j g hR hb => ?_, fun j j' g hj hj' => ?_⟩
  ·rw [List.length_set]
   exact h4.root.mono hRF (fun g hg => hkeep g (.inl hg) (h4.apart _ _ hg))
  ·rw [List.length_set]; exact h4.rhdr.mono
  ·simp only [B']
   by_cases hjq : j = q
   ·subst hjq
    rw [List.getElem?_set_self hql] at hj
    cases hj
    rw [if_pos rfl]
    exact h7
   ·rw [List.getElem?_set_ne (by omega)] at hj
    rw [if_neg hjq]
    exact (h4.row j r hj).mono hRF (fun g hg => hkeep g (.inr ⟨j, hg⟩) (fun hg' => hjq (h4.inj _ _ _ hg hg')))
  ·have hjq : j ≠ q := fun e => hne (by rw [e])
   rw [List.getElem?_set_ne (by omega)] at hj
   simp only [B', if_neg hjq]
   exact (h4.hdr j r hj (by simp)).mono
  ·cases hj
   refine ⟨_, List.getElem?_set_self hql, ?_⟩
   simp only [B', if_true]
   rw [List.length_append]
   exact h8
  ·simp only [B']
   intro g b c n hk i c'
   by_cases hjq : j = q
   ·rw [if_pos hjq] at hk
    show (if j = q then Z65 k ti.size i c' else V [3, j, i, c']) = _
    rw [if_pos hjq]
    exact Z4c k ti.size g b c n hk i c'
   ·rw [if_neg hjq] at hk
    show (if j = q then Z65 k ti.size i c' else V [3, j, i, c']) = _
    rw [if_neg hjq]
    exact h4.ptr j g b c n hk i c'
  ·rw [List.length_set] at hj
   simp only [B']
   rw [if_neg (by omega)]
   exact h4.out j hj
  ·rcases hB' j g hb with ⟨_, hb⟩ | ⟨_, hb⟩
   ·exact hnewR g hb hR
   ·exact h4.apart _ _ hR hb
  ·rcases hB' j g hj with ⟨e1, hb⟩ | ⟨e1, hb⟩ <;> rcases hB' j' g hj' with ⟨e2, hb'⟩ | ⟨e2, hb'⟩
   ·rw [e1, e2]
   ·exact absurd hb' (hnew g j' hb e2)
   ·exact absurd hb (hnew g j hb' e1)
   ·exact h4.inj _ _ _ hb hb'
 refine ⟨v, w', upd σ id (some (.ext (Z15 R B') (Z7r V q ti.size k v))), F, _, .nm id [4], h5, hr.change (ob := .tree e0 e ti.size (some q) (es.set q (row ++ news))) hid h6.os h6.tape h6.output h6.size (fun g hg hn => h6.blk g hg (fun hb => hn (hown g (.inr ⟨q, hb⟩)))) (fun _ h => h) (fun _ h => .inl h) ?_ Za2 Za1 (Zdm h1 rfl (fun j => rfl)) (fun h => absurd h (by omega)) ⟨R, B', _, Z3 _ _ _, hT'⟩, .nm id [4] _ _ (Z3 _ _ _) hv1, hK⟩
 intro q' g hq' hg
 cases hq'
 rcases hg with hg | ⟨j, hg⟩
 ·have := hr.heap.lt _ _ (hown g (.inl hg))
  exact ⟨Nat.lt_of_lt_of_le this.1 h6.size, this.2, .inl (hown g (.inl hg))⟩
 ·rcases hB' j g hg with ⟨_, hb⟩ | ⟨_, hb⟩
  ·have h9 := h6.has g hb
   exact ⟨h9.1, h9.2.1, h9.2.2.imp (fun h => hown g (.inr ⟨q, h⟩)) (fun h => h)⟩
  ·have := hr.heap.lt _ _ (hown g (.inr ⟨j, hb⟩))
   exact ⟨Nat.lt_of_lt_of_le this.1 h6.size, this.2, .inl (hown g (.inr ⟨j, hb⟩))⟩
def Ze9 (V : List Nat → Value) (q : Nat) (v : Value) : List Nat → Value
 | [1, j] => if j = q then v else V [1, j]
 | l => V l
theorem Zgd {t : Nat} {y z : Operand} (ho : o.op = .store t y z) (hT : Zf P T) {i : TI} (hi : T t = some i) (hs1 : i.size = 1) {id q : Nat} (hy : s.ev y = .nm id [2, q]) (hz : s.ev z = .nm id [4]) {e ei sz : Nat} {es : List (List (List AV))} (hq : s.heap[id]? = some (.tree e ei sz (some q) es))
  (hm : X.m ≤ id) (hd : dOK X.n o.dst) (hK : K (St.put ⟨Zt (Z3v id) s.env, (s.heap.map (AObj.sub (Z3v id))).set id (.tree e ei sz none es)⟩ o.dst .any)) : opWP P X o K s := by
 refine opWP.unit (fun σ F a w hr => ?_) hd
 have hid : id < s.heap.length := (List.getElem?_eq_some_iff.1 hq).1
 obtain ⟨R, B, V, h1, h2, h3, h4⟩ := Z25 hr hy hq
 have h2z : a.eval z = V [4] := by
  obtain ⟨R', B', V', h1', h2', _, _⟩ := Z25 hr hz hq
  rw [h1] at h1'
  injection h1' with h1'
  injection h1' with e1 e2
  rw [e2]; exact h2'
 obtain ⟨row, hrow, hp⟩ := h4.phdr q rfl
 have hql : q < es.length := (List.getElem?_eq_some_iff.1 hrow).1
 obtain ⟨g, b, c, cur, h7, h8, h9, h10, h11, h12, h13, h14⟩ := h4.cell hql
 rw [h14] at h2
 have hc1 : (V [4]).cells.toList = [V [4]] := by obtain ⟨A, c, h⟩ := hp.slice; rw [h]; rfl
 have hv1 : (V [4]).oneCell' = true := by obtain ⟨A, c, h⟩ := hp.slice; rw [h]; rfl
 have hown : ∀ g, Z15 R B g → hasB σ id g := fun g hg => ⟨_, h1, hg⟩
 have hRg : R.has g := by rw [h7]; rfl
 have hlt := hr.heap.lt _ _ (hown g (.inl hRg))
 have hcl : (a.eval z).cells.toList = [V [4]] := by rw [h2z]; exact hc1
 have hrun := Z5a (w := w) (hT _ _ hi) ho h2 h10 (by rw [hcl, hs1]; rfl) (fun u hu => by rw [hcl] at hu; rw [List.mem_singleton.1 hu]; exact hv1) (by rw [hs1, h11]; omega)
 rw [hcl] at hrun
 let cur' : Array Value := (cur.toList.take (b + q) ++ [V [4]] ++ cur.toList.drop (b + q + [V [4]].length)).toArray
 have hoth : ∀ g', g' ≠ g → (w.setRow g cur').heap[g']? = w.heap[g']? := fun g' hn => setRow_other w g g' _ hn
 have hRF : ∀ x y, RepF F w x y → RepF F (w.setRow g cur') x y := fun x y h => h.mono (fun _ h => h) (fun b hb => hoth b (fun e => hlt.2 (e ▸ hb)))
 have hfit : b + q + [V [4]].length ≤ cur.size := by rw [h11]; simp; omega
 have hBg : ∀ j g', (B j).has g' → g' ≠ g := fun j g' hb e => h4.apart j g hRg (e ▸ hb)
 have hT' : TreeRep F (w.setRow g cur') e ei sz none es R B (Ze9 V q (V [4])) := by
  refine ⟨?_, h4.rhdr.mono, fun g b c n hR i => h4.rptr g b c n hR i, fun j r hj => (h4.row j r hj).mono hRF (fun g' hg' => hoth g' (hBg j g' hg')), fun j r hj _ => ?_, fun j hj => (by cases hj), fun j g b c n hB i c' => h4.ptr j g b c n hB i c', h4.out, h4.apart, h4.inj⟩
  ·rw [h7]
   refine .inr ⟨g, b, c, cur', by simp, by simpa using h9, h8, setRow_heap w g cur _ e _ h10, by simp only [cur']; rw [Z3i _ _ _ hfit, h11, Nat.mul_one], fun cs hcs => ?_, fun j cs p x hj hp' => ?_⟩
   ·simp only [List.mem_map] at hcs
    obtain ⟨k, _, rfl⟩ := hcs
    rfl
   ·rw [List.getElem?_map, Option.map_eq_some_iff] at hj
    obtain ⟨k, hk, rfl⟩ := hj
    obtain ⟨hkl, hk⟩ := List.getElem?_eq_some_iff.1 hk
    rw [List.getElem_range] at hk
    subst hk
    rw [List.length_range] at hkl
    have hp0 : p = 0 := by have := (List.getElem?_eq_some_iff.1 hp').1; simp at this; omega
    subst hp0
    simp at hp'
    subst hp'
    simp only [cur', Nat.mul_one, Nat.add_zero]
    rw [Z23 _ _ _ hfit]
    by_cases hjq : j = q
    ·rw [if_pos (by subst hjq; simp)]
     subst hjq
     refine ⟨V [4], by simp, hv1, ?_⟩
     show RepF F _ (.v (if j = j then V [4] else V [1, j])) _
     rw [if_pos rfl]
     exact .v _
    ·rw [if_neg (by simp; omega)]
     obtain ⟨g2, b2, c2, cur2, i7, i8, i9, i10, i11, i12, i13, i14⟩ := h4.cell hkl
     rw [h7] at i7
     injection i7 with e1 e2 e3 e4
     subst e1 e2 e3
     rw [h10] at i10
     injection i10 with i10
     injection i10 with i10
     subst i10
     refine ⟨V [1, j], i12, i13, ?_⟩
     show RepF F _ (.v (if j = q then V [4] else V [1, j])) _
     rw [if_neg hjq]
     exact .v _
  ·show HdrRep (B j) F _ sz r.length (if j = q then V [4] else V [1, j])
   by_cases hjq : j = q
   ·subst hjq
    rw [if_pos rfl]
    rw [hrow] at hj
    cases hj
    exact hp.mono
   ·rw [if_neg hjq]
    exact (h4.hdr j r hj (fun e => hjq (by injection e with e; exact e.symm))).mono
 refine ⟨w.setRow g cur', upd σ id (some (.ext (Z15 R B) (Ze9 V q (V [4])))), F, _, hrun, hr.change (ob := .tree e ei sz none es) hid rfl rfl rfl (by simp) (fun g' _ hn => hoth g' (fun e => hn (e ▸ hown g (.inl hRg)))) (fun _ h => h) (fun _ h => .inl h) (fun q' g' hq' hg' => ?_) Za2 Za1 (Zdm h1 rfl (fun j => rfl)) (fun h => absurd h (by omega)) ⟨R, B, _, Z3 _ _ _, hT'⟩, hK⟩
 cases hq'
 have := hr.heap.lt _ _ (hown g' hg')
 exact ⟨by simpa using this.1, this.2, .inl (hown g' hg')⟩
theorem src_row {q : Blk} {e sz : Nat} {es : List (List AV)} {v : Value} (h : RowRep q F w e sz es) (hh : HdrRep q F w sz es.length v) : ∃ new, Src P w sz es.length v new ∧ Zjy F w sz es new := by
 rcases Nat.eq_zero_or_pos es.length with h0 | h0
 ·have : es = [] := List.eq_nil_of_length_eq_zero h0
  subst this
  obtain ⟨A, c, rfl⟩ := hh.slice
  exact ⟨[], Z7i, by simp, by simp⟩
 ·obtain ⟨g, b, c, rfl⟩ := h.pos h0
  obtain ⟨_, h2, h3, cur, h4, h5, h6, h7⟩ := h.at
  have hv := hh.at h0
  subst hv
  have hVc : ∀ i j, i < es.length → j < sz → ∃ cs x u, es[i]? = some cs ∧ cs[j]? = some x ∧ cur[(b + i) * sz + j]? = some u ∧ u.oneCell' = true ∧ RepF F w x u := fun i j hi hj => by
   have hj2 : j < es[i].length := by rw [h6 _ (List.getElem_mem hi)]; exact hj
   obtain ⟨u, h8, h9, h10⟩ := h7 i es[i] j es[i][j] (List.getElem?_eq_getElem hi) (List.getElem?_eq_getElem hj2)
   exact ⟨_, _, u, List.getElem?_eq_getElem hi, List.getElem?_eq_getElem hj2, h8, h9, h10⟩
  refine ⟨Z1w (fun i j => (cur[(b + i) * sz + j]?).getD undef) es.length sz, Z7j (Zj _ _ _) (fun q u hq => ?_) (fun u hu => ?_), h6, fun i cs j x hi hj => ?_⟩
  ·have hlt : q < es.length * sz := by have := (List.getElem?_eq_some_iff.1 hq).1; rwa [Zj] at this
   obtain ⟨i, j, hi, hj, rfl⟩ := Zo hlt
   rw [Zk _ hi hj] at hq
   injection hq with hq
   obtain ⟨_, _, u', _, _, h8, _⟩ := hVc i j hi hj
   rw [h8, Option.getD_some] at hq
   subst hq
   rw [Zp, ← Nat.add_assoc, ← Nat.add_mul]
   simp [World.cell?, h4, h8]
  ·obtain ⟨q, hq⟩ := List.getElem?_of_mem hu
   have hlt : q < es.length * sz := by have := (List.getElem?_eq_some_iff.1 hq).1; rwa [Zj] at this
   obtain ⟨i, j, hi, hj, rfl⟩ := Zo hlt
   rw [Zk _ hi hj] at hq
   injection hq with hq
   obtain ⟨_, _, u', _, _, h8, h9, _⟩ := hVc i j hi hj
   rw [h8, Option.getD_some] at hq
   subst hq
   exact h9
  ·have hi' : i < es.length := (List.getElem?_eq_some_iff.1 hi).1
   have hj' : j < sz := by have := (List.getElem?_eq_some_iff.1 hj).1; rw [h6 cs (List.mem_of_getElem? hi)] at this; exact this
   obtain ⟨u, h8, h9, h10⟩ := h7 i cs j x hi hj
   refine ⟨u, ?_, h9, h10⟩
   rw [Zk _ hi' hj', h8, Option.getD_some]
def Z9z (n : Nat) (V V2 : List Nat → Value) (k : Blk) (v : Value) : List Nat → Value
 | [0] => v
 | [1, j] => if j < n then V [1, j] else V2 [1, j - n]
 | [2, j] => Z65 k 1 j 0
 | [3, j, i, c] => if j < n then V [3, j, i, c] else V2 [3, j - n, i, c]
 | l => V l
theorem Z9w {t t' e : Nat} {y z : Operand} (ho : o.op = .call { callee := .builtin .append, args := #[y, z], argTypes := #[t, t'] }) (hT : Zf P T) {m p : Nat} {zv : Value} (ht : T t = some ⟨.slice e, m, p, zv⟩) {ti : TI} (hti : T e = some ti) (hs1 : ti.size = 1)
  (ht' : (∃ e' m' p' z', T t' = some ⟨.slice e', m', p', z'⟩) ∨ ∃ m' p' z', T t' = some ⟨.str, m', p', z'⟩) {id id2 : Nat} (hne : id ≠ id2) (hy : s.ev y = .nm id [0]) (hz : s.ev z = .nm id2 [0]) {ei sz : Nat} {es es2 : List (List (List AV))}
  (hq : s.heap[id]? = some (.tree e ei sz none es)) (hq2 : s.heap[id2]? = some (.tree e ei sz none es2)) (hby : 0 < ti.bytes) (hfit : (es.length + es2.length) * ti.bytes ≤ 140737488355328) (hm : X.m ≤ id) (hd : dOK X.n o.dst)
  (hK : K (St.put ⟨Zt (Z6 id) (Zt (Z6 id2) s.env), (((s.heap.map (AObj.sub (Z6 id2))).set id2 .dead).map (AObj.sub (Z6 id))).set id (.tree e ei sz none (es ++ es2))⟩ o.dst (.nm id [0]))) : opWP P X o K s := by
 refine opWP.mem (fun σ F a w hr => ?_) hd
 have hid : id < s.heap.length := (List.getElem?_eq_some_iff.1 hq).1
 have hid2 : id2 < s.heap.length := (List.getElem?_eq_some_iff.1 hq2).1
 obtain ⟨R, B, V, h1, h2, h3, h4⟩ := Z25 hr hy hq
 obtain ⟨R2, B2, V2, i1, i2, i3, i4⟩ := Z25 hr hz hq2
 have hown : ∀ g, Z15 R B g → hasB σ id g := fun g hg => ⟨_, h1, hg⟩
 have hown2 : ∀ g, Z15 R2 B2 g → hasB σ id2 g := fun g hg => ⟨_, i1, hg⟩
 have hroot : RowRep R F w e ti.size ((List.range es.length).map fun k => [AV.v (V [1, k])]) := by rw [hs1]; exact h4.root
 have hroot2 : RowRep R2 F w e ti.size ((List.range es2.length).map fun k => [AV.v (V2 [1, k])]) := by rw [hs1]; exact i4.root
 have hl1 : ((List.range es.length).map fun k => [AV.v (V [1, k])]).length = es.length := by simp
 have hl2 : ((List.range es2.length).map fun k => [AV.v (V2 [1, k])]).length = es2.length := by simp
 obtain ⟨new, hs, hnl, hnr⟩ := src_row (P := P) hroot2 (v := a.eval z) (by rw [i2, hl2, hs1]; exact i4.rhdr)
 obtain ⟨v, w', k, h5, h6, h7, h8⟩ := Z8g ho hT ht hti ht' hroot hs hnl hnr (by omega) hby (by rw [hl1, hl2]; exact hfit) (fun g hg => hr.heap.lt _ _ (hown g (.inl hg))) hr.heap.flt (by rw [h2, hl1, hs1]; exact h4.rhdr)
 rw [hl1, hl2, hs1] at h8
 rw [hs1] at h7
 have hv1 : v.oneCell' = true := by obtain ⟨A, c, rfl⟩ := h8.slice; rfl
 have hRF : ∀ x y, RepF F w x y → RepF F w' x y := fun x y h => h.mono (fun _ h => h) (fun b hb => h6.blk b (hr.heap.flt b hb) (fun hg => (hr.heap.lt _ _ (hown b (.inl hg))).2 hb))
 have hr1 := hr.change (w' := w) (F' := F) (k := none) (f := Z6 id2) (ob := .dead) hid2 rfl rfl rfl (Nat.le_refl _) (fun _ _ _ => rfl) (fun _ h => h) (fun _ h => .inl h) (fun q g h => by cases h) Z1k Z1j Z1v (fun _ => .inr rfl) (Z3 _ _ _)
 have e0 : upd σ id2 none id = σ id := Zb _ _ hne
 have hB1 : ∀ i g, hasB (upd σ id2 none) i g → i ≠ id2 ∧ hasB σ i g := fun i g h => by
  by_cases e : i = id2
  ·subst e
   obtain ⟨q, hq, _⟩ := Z2i.1 h
   cases hq
  ·exact ⟨e, (Z1q e).1 h⟩
 let B' : Nat → Blk := fun j => if j < es.length then B j else B2 (j - es.length)
 have hB' : ∀ j g, (B' j).has g → (j < es.length ∧ (B j).has g) ∨ (es.length ≤ j ∧ (B2 (j - es.length)).has g) := fun j g hg => by
  simp only [B'] at hg
  by_cases hj : j < es.length
  ·rw [if_pos hj] at hg; exact .inl ⟨hj, hg⟩
  ·rw [if_neg hj] at hg; exact .inr ⟨by omega, hg⟩
 have hx12 : ∀ j j' g, (B j).has g → ¬ (B2 j').has g := fun j j' g hg hg' => hne (hr.heap.inj _ _ _ (hown g (.inr ⟨j, hg⟩)) (hown2 g (.inr ⟨j', hg'⟩)))
 have hnewB : ∀ g j, k.has g → ¬ (B j).has g := fun g j hg hb => by
  rcases (h6.has g hg).2.2 with h9 | h9
  ·exact h4.apart _ _ h9 hb
  ·have := (hr.heap.lt _ _ (hown g (.inr ⟨j, hb⟩))).1; omega
 have hnewB2 : ∀ g j, k.has g → ¬ (B2 j).has g := fun g j hg hb => by
  rcases (h6.has g hg).2.2 with h9 | h9
  ·exact hne (hr.heap.inj _ _ _ (hown g (.inl h9)) (hown2 g (.inr ⟨j, hb⟩)))
  ·have := (hr.heap.lt _ _ (hown2 g (.inr ⟨j, hb⟩))).1; omega
 have hkB : ∀ j g, (B j).has g → w'.heap[g]? = w.heap[g]? := fun j g hg => h6.blk g (hr.heap.lt _ _ (hown g (.inr ⟨j, hg⟩))).1 (fun h => h4.apart _ _ h hg)
 have hkB2 : ∀ j g, (B2 j).has g → w'.heap[g]? = w.heap[g]? := fun j g hg => h6.blk g (hr.heap.lt _ _ (hown2 g (.inr ⟨j, hg⟩))).1 (fun h => hne (hr.heap.inj _ _ _ (hown g (.inl h)) (hown2 g (.inr ⟨j, hg⟩))))
 have hT' : TreeRep F w' e ei sz none (es ++ es2) k B' (Z9z es.length V V2 k v) := by
  refine ⟨?_, by rw [List.length_append]; exact h8, fun g b c n hk i => ?_, fun j r hj => ?_, fun j r hj _ => ?_, fun j hj => (by cases hj), fun j g b c n hB i c' => ?_, fun j hj => ?_, fun j g hR hb => ?_, fun j j' g hj hj' => ?_⟩
  ·have e1 : (List.range (es ++ es2).length).map (fun j => [AV.v (Z9z es.length V V2 k v [1, j])]) = ((List.range es.length).map fun k => [AV.v (V [1, k])]) ++ (List.range es2.length).map fun k => [AV.v (V2 [1, k])] := by
    rw [List.length_append, List.range_add, List.map_append, List.map_map]
    congr 1
    ·refine List.map_congr_left fun j hj => ?_
     have hj' := List.mem_range.1 hj
     show [AV.v (if j < es.length then V [1, j] else V2 [1, j - es.length])] = _
     rw [if_pos hj']
    ·refine List.map_congr_left fun j _ => ?_
     show [AV.v (if es.length + j < es.length then V [1, es.length + j] else V2 [1, es.length + j - es.length])] = _
     rw [if_neg (by omega), Nat.add_sub_cancel_left]
   rw [e1]; exact h7
  ·show Z65 k 1 i 0 = _
   have h9 := Z4c k 1 g b c n hk i 0
   rw [h9, Nat.mul_one, Nat.add_zero]
  ·simp only [B']
   by_cases hlt : j < es.length
   ·rw [List.getElem?_append_left hlt] at hj
    rw [if_pos hlt]
    exact (h4.row j r hj).mono hRF (fun g hg => hkB j g hg)
   ·rw [List.getElem?_append_right (by omega)] at hj
    rw [if_neg hlt]
    exact (i4.row _ r hj).mono hRF (fun g hg => hkB2 _ g hg)
  ·simp only [B']
   show HdrRep _ F _ sz r.length (if j < es.length then V [1, j] else V2 [1, j - es.length])
   by_cases hlt : j < es.length
   ·rw [List.getElem?_append_left hlt] at hj
    rw [if_pos hlt, if_pos hlt]
    exact (h4.hdr j r hj (by simp)).mono
   ·rw [List.getElem?_append_right (by omega)] at hj
    rw [if_neg hlt, if_neg hlt]
    exact (i4.hdr _ r hj (by simp)).mono
  ·simp only [B'] at hB
   show (if j < es.length then V [3, j, i, c'] else V2 [3, j - es.length, i, c']) = _
   by_cases hlt : j < es.length
   ·rw [if_pos hlt] at hB ⊢; exact h4.ptr j g b c n hB i c'
   ·rw [if_neg hlt] at hB ⊢; exact i4.ptr _ g b c n hB i c'
  ·rw [List.length_append] at hj
   simp only [B']
   rw [if_neg (by omega)]
   exact i4.out _ (by omega)
  ·rcases hB' j g hb with ⟨_, hb⟩ | ⟨_, hb⟩
   ·exact hnewB g j hR hb
   ·exact hnewB2 g _ hR hb
  ·rcases hB' j g hj with ⟨e1, hb⟩ | ⟨e1, hb⟩ <;> rcases hB' j' g hj' with ⟨e2, hb'⟩ | ⟨e2, hb'⟩
   ·exact h4.inj _ _ _ hb hb'
   ·exact absurd hb' (hx12 _ _ _ hb)
   ·exact absurd hb (hx12 _ _ _ hb')
   ·have := i4.inj _ _ _ hb hb'; omega
 have hr2 := hr1.change2 (w' := w') (F' := F) (id := id) (k := some (.ext (Z15 k B') (Z9z es.length V V2 k v))) (f := Z6 id) (ob := .tree e ei sz none (es ++ es2)) (by simpa using hid) h6.os h6.tape h6.output h6.size (fun g hg hn => h6.blk g hg (fun hb => hn ((Z1q hne).2 (hown g (.inl hb))))) (fun _ h => h) (fun _ h => .inl h) (fun q' g hq' hg => ?_) Z1k Z1j Z1v (fun h => absurd h (by omega)) ⟨k, B', _, Z3 _ _ _, hT'⟩
 ·exact ⟨v, w', _, F, _, .nm id [0], h5, hr2, .nm id [0] _ _ (Z3 _ _ _) hv1, hK⟩
 ·cases hq'
  have old : ∀ g, hasB σ id g ∨ hasB σ id2 g → g < w'.heap.size ∧ ¬ F g ∧ (∀ i, i ≠ id → ¬ hasB (upd σ id2 none) i g) ∧ (X.M g ∨ X.w0.heap.size ≤ g) := fun g hg => by
   rcases hg with hg | hg
   ·have h9 := hr.heap.lt _ _ hg
    exact ⟨Nat.lt_of_lt_of_le h9.1 h6.size, h9.2, fun i hi hb => hi (hr.heap.inj _ _ _ (hB1 _ _ hb).2 hg), hr.own _ _ hg⟩
   ·have h9 := hr.heap.lt _ _ hg
    exact ⟨Nat.lt_of_lt_of_le h9.1 h6.size, h9.2, fun i hi hb => (hB1 _ _ hb).1 (hr.heap.inj _ _ _ (hB1 _ _ hb).2 hg), hr.own _ _ hg⟩
  rcases hg with hg | ⟨j, hg⟩
  ·have h9 := h6.has g hg
   rcases h9.2.2 with h10 | h10
   ·exact old g (.inl (hown g (.inl h10)))
   ·refine ⟨h9.1, h9.2.1, fun i _ hb => ?_, .inr (Nat.le_trans hr.keep.size h10)⟩
    have := (hr.heap.lt _ _ (hB1 _ _ hb).2).1; omega
  ·rcases hB' j g hg with ⟨_, hb⟩ | ⟨_, hb⟩
   ·exact old g (.inl (hown g (.inr ⟨j, hb⟩)))
   ·exact old g (.inr (hown2 g (.inr ⟨_, hb⟩)))
theorem Z93 {id sz n : Nat} {q : Blk} (h : RepV σ F w (.own id sz 0 n) v) (hs : σ id = some q) : HdrRep q F w sz n v := by
 cases h with
 | f _ _ h => cases h
 | own0 _ _ h => rw [hs] at h; exact .own0 _ _ h
 | own _ _ _ _ g b c n h hn hc => rw [hs] at h; exact .own _ _ _ _ g b c n h hn hc
 | ownz _ _ _ g b c n a h hn hc => rw [hs] at h; exact .ownz _ _ _ g b c n a h hn hc
theorem Z60 {id e sz : Nat} {es : List (List AV)} (h : RepO σ F w id (.row e sz es)) : ∃ q, σ id = some q ∧ RowRep q F w e sz es := by
 rcases h with ⟨h1, h2⟩ | ⟨g, b, c, cur, h1, h2, h3, h4, h5, h6, h7⟩
 ·exact ⟨.nil, h1, .inl ⟨rfl, h2⟩⟩
 ·exact ⟨_, h1, .inr ⟨g, b, c, cur, rfl, h2, h3, h4, h5, h6, h7⟩⟩
def Z20 (q : Blk) (v : Value) : List Nat → Value
 | [0] => v
 | [1, _] => .slice none 0 0
 | [2, k] => Z65 q 1 k 0
 | _ => undef
theorem Ze0 {q : Blk} {e ei sz n : Nat} (hr : RowRep q F w e 1 (List.replicate n [.v (.slice none 0 0)])) (hh : HdrRep q F w 1 n v) : TreeRep F w e ei sz none (List.replicate n []) q (fun _ => .nil) (Z20 q v) := by
 refine ⟨?_, by simpa [Z20] using hh, fun g b c n' hq k => ?_, fun k row hk => ?_, fun k row hk _ => ?_, fun j hj => (by cases hj), fun k g b c n' h => (by cases h), fun _ _ => rfl, fun k g _ h => h, fun k k' g h => h.elim⟩
 ·have : (List.range (List.replicate n ([] : List (List AV))).length).map (fun k => [AV.v (Z20 q v [1, k])]) = List.replicate n [.v (.slice none 0 0)] := by
   rw [List.length_replicate]
   apply List.ext_getElem?
   intro i
   rw [List.getElem?_map, List.getElem?_replicate]
   by_cases hi : i < n
   ·rw [List.getElem?_range hi, if_pos hi]; rfl
   ·rw [List.getElem?_eq_none (by simp; omega), if_neg hi]; rfl
  rw [this]; exact hr
 ·show Z65 q 1 k 0 = _
  rw [Z4c q 1 g b c n' hq k 0, Nat.mul_one, Nat.add_zero]
 ·rw [List.getElem?_replicate] at hk
  split at hk
  ·cases hk; exact .inl ⟨rfl, rfl⟩
  ·cases hk
 ·rw [List.getElem?_replicate] at hk
  split at hk
  ·cases hk; exact .own0 0 sz rfl
  ·cases hk
theorem RepAt.newTree (hr : RepAt X σ F s a w) (e ei sz : Nat) {d : Nat} (hd : envGet s.env d = .v (.slice none 0 0)) : ∃ σ', RepAt X σ' F ⟨(d, .nm s.heap.length [0]) :: s.env, s.heap ++ [.tree e ei sz none []]⟩ a w := by
 have hT : TreeRep F w e ei sz none [] .nil (fun _ => .nil) (Z20 .nil (.slice none 0 0)) := Ze0 (n := 0) (.inl ⟨rfl, rfl⟩) (.own0 0 1 rfl)
 have h := hr.new (k := .ext (Z15 .nil (fun _ => .nil)) (Z20 .nil (.slice none 0 0))) (ob := .tree e ei sz none []) ⟨.nil, _, _, Z3 _ _ _, hT⟩ (fun g hg => by rcases hg with hg | ⟨_, hg⟩ <;> exact hg.elim)
 refine ⟨_, ⟨h.defers, h.size, fun i => ?_, h.heap, h.keep, h.own, h.fnew, h.stab, h.hm⟩⟩
 simp only [envGet]
 by_cases hi : i = d
 ·rw [if_pos hi]
  subst hi
  have h2 := hr.env i
  rw [hd] at h2
  rw [RepV.val h2]
  exact .nm _ [0] _ (Z20 .nil (.slice none 0 0)) (Z3 _ _ _) rfl
 ·rw [if_neg hi]; exact h.env i
theorem RepAt.toTree (hr : RepAt X σ F s a w) {id e ei sz n : Nat} (hq : s.heap[id]? = some (.row e 1 (List.replicate n [.v (.slice none 0 0)]))) {d : Nat} (hd : envGet s.env d = .own id 1 0 n) (hm : X.m ≤ id) :
  ∃ σ', RepAt X σ' F ⟨(d, .nm id [0]) :: Zt (Z6 id) s.env, (s.heap.map (AObj.sub (Z6 id))).set id (.tree e ei sz none (List.replicate n []))⟩ a w := by
 have hid : id < s.heap.length := (List.getElem?_eq_some_iff.1 hq).1
 obtain ⟨q, h1, h2⟩ := Z60 (hr.heap.obj id _ hq)
 have hv := hr.env d
 rw [hd] at hv
 have h3 := Z93 hv h1
 have hT : TreeRep F w e ei sz none (List.replicate n []) q (fun _ => .nil) (Z20 q (a.tmps.getD d undef)) := Ze0 h2 h3
 have hv1 : (Z20 q (a.tmps.getD d undef) [0]).oneCell' = true := by
  obtain ⟨A, c, h⟩ := h3.slice
  show (a.tmps.getD d undef).oneCell' = true
  rw [h]; rfl
 have hown : ∀ g, Z15 q (fun _ => .nil) g → hasB σ id g := fun g hg => by
  rcases hg with hg | ⟨_, hg⟩
  ·exact ⟨q, h1, hg⟩
  ·exact hg.elim
 have h := hr.change (w' := w) (F' := F) (k := some (.ext (Z15 q (fun _ => .nil)) (Z20 q (a.tmps.getD d undef)))) (f := Z6 id) (ob := .tree e ei sz none (List.replicate n [])) hid rfl rfl rfl (Nat.le_refl _) (fun _ _ _ => rfl) (fun _ h => h) (fun _ h => .inl h)
  (fun q' g hq' hg => by
   cases hq'
   have := hr.heap.lt _ _ (hown g hg)
   exact ⟨this.1, this.2, .inl (hown g hg)⟩) Z1k Z1j Z1v (fun h => absurd h (by omega)) ⟨q, _, _, Z3 _ _ _, hT⟩
 refine ⟨_, ⟨h.defers, h.size, fun i => ?_, h.heap, h.keep, h.own, h.fnew, h.stab, h.hm⟩⟩
 simp only [envGet]
 by_cases hi : i = d
 ·rw [if_pos hi]
  subst hi
  exact .nm _ [0] _ (Z20 q (a.tmps.getD i undef)) (Z3 _ _ _) hv1
 ·rw [if_neg hi]; exact h.env i
def Ziw (q : Blk) (v1 v : Value) (sz : Nat) (k : Blk) : List Nat → Value
 | [0] => v1
 | [1, _] => v
 | [2, j] => Z65 q 1 j 0
 | [3, _, i, c] => Z65 k sz i c
 | _ => undef
theorem Zbv {t e : Nat} {y : Operand} {parts : Array (Nat × Operand)} (ho : o.op = .buildSlice t 1 parts) (hparts : parts.toList = [(0, y)]) (hT : Zf P T) {m p : Nat} {z : Value} (ht : T t = some ⟨.slice e, m, p, z⟩) {i : TI} (hi : T e = some i) (hs1 : i.size = 1)
  {id2 sz ei : Nat} {row : List (List AV)} (hy : s.ev y = .own id2 sz 0 row.length) (hq : s.heap[id2]? = some (.row ei sz row)) (hd : dOK X.n o.dst)
  (hK : K (St.put ⟨Zt (Z6 s.heap.length) (Zt (Z6 id2) s.env), ((((s.heap ++ [AObj.row e 1 []]).map (AObj.sub (Z6 id2))).set id2 AObj.dead).map (AObj.sub (Z6 s.heap.length))).set s.heap.length (.tree e ei sz none [row])⟩ o.dst (.nm s.heap.length [0]))) : opWPG P X o K s := by
 refine opWPG.mem (fun σ F a w hr => ?_) hd
 have hu : P.underlying t = some (.slice e) := (hT _ _ ht).kind
 have hz := hT _ _ hi
 have hid2 : id2 < s.heap.length := (List.getElem?_eq_some_iff.1 hq).1
 obtain ⟨q, h1, h2⟩ := Z60 (hr.heap.obj id2 _ hq)
 have h3 := Z93 (hy ▸ hr.ev y) h1
 have hc1 : (a.eval y).cells.toList = [a.eval y] := by obtain ⟨A, c, h⟩ := h3.slice; rw [h]; rfl
 have hv1 : (a.eval y).oneCell' = true := by obtain ⟨A, c, h⟩ := h3.slice; rw [h]; rfl
 let cs0 : Array Value := (Array.range (1 * i.size)).map ((if 1 * i.size = 0 then #[] else i.zero.cells)[· % (if 1 * i.size = 0 then #[] else i.zero.cells).size]!)
 obtain ⟨cs', f1, f2, _, f4⟩ := Zab i.size [(0, a.eval y)] 0 cs0 rfl (fun q' hq' => by
   rw [List.mem_singleton.1 hq', hs1]
   simpa using congrArg List.length hc1) (by simp [cs0])
 have hcs : cs'.size = 1 := by rw [f2]; simp [cs0, hs1]
 have hget : cs'[0]? = some (a.eval y) := by
  have := f4 0 (0, a.eval y) 0 rfl (by omega)
  simp only [hs1, Nat.add_zero, Nat.zero_mul] at this
  rw [this, ← Array.getElem?_toList, hc1]; rfl
 let w1 := w.alloc (.cells cs' e)
 have hE : Ext w w1 := Ext.alloc w _
 have hr1 := (hr.ext hE).newNil e 1
 have hr2 := hr1.change (w' := w1) (F' := F) (k := none) (f := Z6 id2) (ob := .dead) (id := id2) (by simp; omega) rfl rfl rfl (Nat.le_refl _) (fun _ _ _ => rfl) (fun _ h => h) (fun _ h => .inl h) (fun q g h => by cases h) Z1k Z1j Z1v (fun _ => .inr rfl) (Z3 _ _ _)
 have hF : ∀ b, F b → w1.heap[b]? = w.heap[b]? := fun b hb => hE.block b (hr.heap.flt b hb) (fun h => h)
 have hRF : ∀ x y, RepF F w x y → RepF F w1 x y := fun x y h => h.mono (fun _ h => h) hF
 let R : Blk := .at_ w.heap.size 0 1 1
 let V := Ziw R (.slice (some ⟨w.heap.size, 0, none⟩) 1 1) (a.eval y) sz q
 let B : Nat → Blk := fun j => if j = 0 then q else .nil
 have hql : ∀ g, q.has g → g < w.heap.size ∧ ¬ F g := fun g hg => hr.heap.lt _ _ ⟨q, h1, hg⟩
 have hT' : TreeRep F w1 e ei sz none [row] R B V := by
  refine ⟨?_, ?_, fun g b c n hR k => ?_, fun k r hk => ?_, fun k r hk _ => ?_, fun k hk => (by cases hk), fun k g b c n hB i' c' => ?_, fun k hk => ?_, fun k g hR hb => ?_, fun k k' g hk hk' => ?_⟩
  ·refine .inr ⟨w.heap.size, 0, 1, cs', rfl, by simp, by decide, heap_alloc_new w _, by simpa using hcs, fun cs hcs => ?_, fun j cs p x hj hp => ?_⟩
   ·simp only [List.mem_map] at hcs
    obtain ⟨k, _, rfl⟩ := hcs
    rfl
   ·have hj0 : j = 0 := by have := (List.getElem?_eq_some_iff.1 hj).1; simp at this; omega
    subst hj0
    cases hj
    have hp0 : p = 0 := by have := (List.getElem?_eq_some_iff.1 hp).1; simp at this; omega
    subst hp0
    cases hp
    exact ⟨a.eval y, hget, hv1, .v _⟩
  ·exact .own 0 1 0 1 w.heap.size 0 1 1 rfl (by simp) (Nat.le_refl _)
  ·show Z65 R 1 k 0 = _
   rw [Z4c R 1 g b c n hR k 0, Nat.mul_one, Nat.add_zero]
  ·have hk0 : k = 0 := by have := (List.getElem?_eq_some_iff.1 hk).1; simp at this; omega
   subst hk0
   cases hk
   exact h2.mono hRF (fun g hg => hE.block g (hql g hg).1 (fun h => h))
  ·have hk0 : k = 0 := by have := (List.getElem?_eq_some_iff.1 hk).1; simp at this; omega
   subst hk0
   cases hk
   exact h3.mono
  ·simp only [B] at hB
   split at hB
   ·exact Z4c q sz g b c n hB i' c'
   ·cases hB
  ·simp only [B]
   rw [if_neg (by simp at hk; omega)]
  ·have e1 : g = w.heap.size := hR
   simp only [B] at hb
   split at hb
   ·have := (hql g hb).1; omega
   ·exact hb
  ·simp only [B] at hk hk'
   split at hk
   ·split at hk'
    ·omega
    ·exact hk'.elim
   ·exact hk.elim
 have hB1 : ∀ i g, hasB (upd (upd σ s.heap.length (some .nil)) id2 none) i g → i ≠ id2 ∧ i ≠ s.heap.length ∧ hasB σ i g := fun i g h => by
  by_cases e2 : i = id2
  ·subst e2
   obtain ⟨q, hq, _⟩ := Z2i.1 h
   cases hq
  ·have h5 := (Z1q e2).1 h
   by_cases e : i = s.heap.length
   ·subst e
    obtain ⟨q, hq, h6⟩ := Z2i.1 h5
    cases hq
    exact h6.elim
   ·exact ⟨e2, e, (Z1q e).1 h5⟩
 have hr3 := hr2.change2 (w' := w1) (F' := F) (id := s.heap.length) (k := some (.ext (Z15 R B) V)) (f := Z6 s.heap.length) (ob := .tree e ei sz none [row]) (by simp) rfl rfl rfl (Nat.le_refl _) (fun _ _ _ => rfl) (fun _ h => h) (fun _ h => .inl h) (fun q' g hq' hg => ?_) Z1k Z1j Z1v (fun h => absurd h (by have := hr.hm; omega)) ⟨R, B, V, Z3 _ _ _, hT'⟩
 ·refine ⟨.slice (some ⟨w.heap.size, 0, none⟩) 1 1, w1, _, F, _, .nm s.heap.length [0], ?_, Grow.alloc w _, hr3, .nm _ [0] _ V (Z3 _ _ _) rfl, hK⟩
  have hps : (parts.map fun q => (q.1, a.eval q.2)).toList = [(0, a.eval y)] := by simp [hparts]
  simp only [execOp, ho, Sem.run_bind, Z4n hu hz (by omega) (hps ▸ f1), Result.andThen_ok, Sem.run_pure]
  rfl
 ·cases hq'
  rcases hg with hg | ⟨j, hg⟩
  ·have e1 : g = w.heap.size := hg
   subst e1
   refine ⟨by simp [w1], fun hF' => by have := hr.heap.flt _ hF'; omega, fun i _ hb => ?_, .inr hr.keep.size⟩
   have := (hr.heap.lt _ _ (hB1 i _ hb).2.2).1; omega
  ·simp only [B] at hg
   split at hg
   ·have h5 : hasB σ id2 g := ⟨q, h1, hg⟩
    have := hr.heap.lt _ _ h5
    exact ⟨Nat.lt_of_lt_of_le this.1 hE.size, this.2, fun i _ hb => (hB1 i g hb).1 (hr.heap.inj _ _ _ (hB1 i g hb).2.2 h5), hr.own _ _ h5⟩
   ·exact hg.elim
theorem RepAt.absorb (hr : RepAt X σ F s a w) {id id2 e ei sz q d : Nat} {row : List (List AV)} {es : List (List (List AV))} (hd : envGet s.env d = .own id2 sz 0 row.length) (hq2 : s.heap[id2]? = some (.row ei sz row)) (hq : s.heap[id]? = some (.tree e ei sz none es)) (hql : q < es.length) (hm : X.m ≤ id) :
  ∃ σ', RepAt X σ' F ⟨(d, .nm id [4]) :: Zt (Z3v id) (Zt (Z6 id2) s.env), ((((s.heap.map (AObj.sub (Z6 id2))).set id2 .dead).map (AObj.sub (Z3v id))).set id (.tree e ei sz (some q) (es.set q row)))⟩ a w := by
 have hid : id < s.heap.length := (List.getElem?_eq_some_iff.1 hq).1
 have hid2 : id2 < s.heap.length := (List.getElem?_eq_some_iff.1 hq2).1
 have hne : id ≠ id2 := fun e => by subst e; rw [hq] at hq2; cases hq2
 obtain ⟨k, h1, h2⟩ := Z60 (hr.heap.obj id2 _ hq2)
 have hv := hr.env d
 rw [hd] at hv
 have h3 := Z93 hv h1
 obtain ⟨R, B, V, h5, h4⟩ := hr.heap.obj id _ hq
 have hown2 : ∀ g, k.has g → hasB σ id2 g := fun g hg => ⟨k, h1, hg⟩
 have hown : ∀ g, Z15 R B g → hasB σ id g := fun g hg => ⟨_, h5, hg⟩
 have hdis : ∀ g, k.has g → ¬ Z15 R B g := fun g hg hg' => hne (hr.heap.inj _ _ _ (hown g hg') (hown2 g hg))
 have hr2 := hr.change (w' := w) (F' := F) (k := none) (f := Z6 id2) (ob := .dead) (id := id2) hid2 rfl rfl rfl (Nat.le_refl _) (fun _ _ _ => rfl) (fun _ h => h) (fun _ h => .inl h) (fun q g h => by cases h) Z1k Z1j Z1v (fun _ => .inr rfl) (Z3 _ _ _)
 let v := a.tmps.getD d undef
 let B' : Nat → Blk := fun j => if j = q then k else B j
 have hT' : TreeRep F w e ei sz (some q) (es.set q row) R B' (Z7r V q sz k v) := by
  refine ⟨?_, ?_, fun g b c n hR i => h4.rptr g b c n hR i, fun j r hj => ?_, fun j r hj hne => ?_, fun j hj => ?_, fun j => ?_, fun j hj => ?_, fun j g hR hb => ?_, fun j j' g hj hj' => ?_⟩
  ·rw [List.length_set]
   exact h4.root
  ·rw [List.length_set]; exact h4.rhdr
  ·simp only [B']
   by_cases hjq : j = q
   ·subst hjq
    rw [List.getElem?_set_self hql] at hj
    cases hj
    rw [if_pos rfl]
    exact h2
   ·rw [List.getElem?_set_ne (by omega)] at hj
    rw [if_neg hjq]
    exact h4.row j r hj
  ·have hjq : j ≠ q := fun e => hne (by rw [e])
   rw [List.getElem?_set_ne (by omega)] at hj
   simp only [B', if_neg hjq]
   exact h4.hdr j r hj (by simp)
  ·cases hj
   refine ⟨_, List.getElem?_set_self hql, ?_⟩
   simp only [B', if_true]
   exact h3
  ·simp only [B']
   intro g b c n hk i c'
   by_cases hjq : j = q
   ·rw [if_pos hjq] at hk
    show (if j = q then Z65 k sz i c' else V [3, j, i, c']) = _
    rw [if_pos hjq]
    exact Z4c k sz g b c n hk i c'
   ·rw [if_neg hjq] at hk
    show (if j = q then Z65 k sz i c' else V [3, j, i, c']) = _
    rw [if_neg hjq]
    exact h4.ptr j g b c n hk i c'
  ·rw [List.length_set] at hj
   simp only [B']
   rw [if_neg (by omega)]
   exact h4.out j hj
  ·simp only [B'] at hb
   by_cases hj : j = q
   ·rw [if_pos hj] at hb; exact hdis g hb (.inl hR)
   ·rw [if_neg hj] at hb; exact h4.apart _ _ hR hb
  ·simp only [B'] at hj hj'
   by_cases e1 : j = q <;> by_cases e2 : j' = q
   ·rw [e1, e2]
   ·rw [if_pos e1] at hj; rw [if_neg e2] at hj'; exact absurd (.inr ⟨j', hj'⟩) (hdis g hj)
   ·rw [if_neg e1] at hj; rw [if_pos e2] at hj'; exact absurd (.inr ⟨j, hj⟩) (hdis g hj')
   ·rw [if_neg e1] at hj; rw [if_neg e2] at hj'; exact h4.inj _ _ _ hj hj'
 have hB1 : ∀ i g, hasB (upd σ id2 none) i g → i ≠ id2 ∧ hasB σ i g := fun i g h => by
  by_cases e2 : i = id2
  ·subst e2
   obtain ⟨q, hq, _⟩ := Z2i.1 h
   cases hq
  ·exact ⟨e2, (Z1q e2).1 h⟩
 have hv1 : v.oneCell' = true := by obtain ⟨A, c, h⟩ := h3.slice; show (a.tmps.getD d undef).oneCell' = true; rw [h]; rfl
 have hr3 := hr2.change2 (w' := w) (F' := F) (id := id) (k := some (.ext (Z15 R B') (Z7r V q sz k v))) (f := Z3v id) (ob := .tree e ei sz (some q) (es.set q row)) (by simpa using hid) rfl rfl rfl (Nat.le_refl _) (fun _ _ _ => rfl) (fun _ h => h) (fun _ h => .inl h) (fun q' g hq' hg => ?_) Za2 Za1 (Zdm ((Zb _ _ hne).trans h5) rfl (fun j => rfl)) (fun h => absurd h (by omega)) ⟨R, B', _, Z3 _ _ _, hT'⟩
 ·refine ⟨_, ⟨hr3.defers, hr3.size, fun i => ?_, hr3.heap, hr3.keep, hr3.own, hr3.fnew, hr3.stab, hr3.hm⟩⟩
  simp only [envGet]
  by_cases hi : i = d
  ·rw [if_pos hi]
   subst hi
   exact .nm id [4] _ (Z7r V q sz k v) (Z3 _ _ _) hv1
  ·rw [if_neg hi]; exact hr3.env i
 ·cases hq'
  have hall : hasB σ id g ∨ hasB σ id2 g := by
   rcases hg with hg | ⟨j, hg⟩
   ·exact .inl (hown g (.inl hg))
   ·simp only [B'] at hg
    by_cases e1 : j = q
    ·rw [if_pos e1] at hg; exact .inr (hown2 g hg)
    ·rw [if_neg e1] at hg; exact .inl (hown g (.inr ⟨j, hg⟩))
  rcases hall with h | h
  ·have := hr.heap.lt _ _ h
   exact ⟨this.1, this.2, fun i hi hb => hi (hr.heap.inj _ _ _ (hB1 i g hb).2 h), hr.own _ _ h⟩
  ·have := hr.heap.lt _ _ h
   exact ⟨this.1, this.2, fun i hi hb => (hB1 i g hb).1 (hr.heap.inj _ _ _ (hB1 i g hb).2 h), hr.own _ _ h⟩
theorem row_ro {q : Blk} {e sz : Nat} {es : List (List AV)} (h : RowRep q F w e sz es) (hh : HdrRep q F w sz es.length v) (hF : ∀ g, F g → F' g) (hq : ∀ g, q.has g → F' g) : RepF F' w (.ro sz es) v := by
 rcases Nat.eq_zero_or_pos es.length with h0 | h0
 ·have : es = [] := List.eq_nil_of_length_eq_zero h0
  subst this
  obtain ⟨A, c, rfl⟩ := hh.slice
  exact .nil0 _ _ _
 ·obtain ⟨g, b, c, rfl⟩ := h.pos h0
  obtain ⟨_, h2, h3, cur, h4, h5, h6, h7⟩ := h.at
  have hv := hh.at h0
  subst hv
  refine .ro sz es.length c es ⟨g, b * sz, none⟩ (fun i j => (cur[(b + i) * sz + j]?).getD undef) rfl h2 (hq g rfl) h6 (fun i cs j x hi hj => ?_) (fun i cs j x hi hj => ?_)
  ·obtain ⟨u, h8, h9, h10⟩ := h7 i cs j x hi hj
   simp only [h8, Option.getD_some]
   refine ⟨?_, h9⟩
   rw [Zp, ← Nat.add_assoc, ← Nat.add_mul]
   simp [World.cell?, h4, h8]
  ·obtain ⟨u, h8, h9, h10⟩ := h7 i cs j x hi hj
   simp only [h8, Option.getD_some]
   exact h10.mono hF (fun _ _ => rfl)
def Z2j (id sz : Nat) (es : List (List (List AV))) : AV → AV
 | .own i s off len => if i = id then .any else .own i s off len
 | .ptr i k s j => if i = id then .any else .ptr i k s j
 | .nm i k => if i = id then (match k with | [0] => AV.ro 1 (es.map fun row => [AV.ro sz row]) | _ => .any) else .nm i k
 | x => x
theorem Rep.freezeTree {s : St} (hr : Rep X s a w) {id e ei sz : Nat} {es : List (List (List AV))} (hq : s.heap[id]? = some (.tree e ei sz none es)) : Rep X ⟨Zt (Z2j id sz es) s.env, (s.heap.map (AObj.sub (Z2j id sz es))).set id .dead⟩ a w := by
 obtain ⟨σ, F, hr⟩ := hr
 have hid : id < s.heap.length := (List.getElem?_eq_some_iff.1 hq).1
 obtain ⟨R, B, V, h1, h4⟩ := hr.heap.obj id _ hq
 let F' : Nat → Prop := fun b => F b ∨ hasB σ id b
 have hown : ∀ g, Z15 R B g → F' g := fun g hg => .inr ⟨_, h1, hg⟩
 refine ⟨upd σ id none, F', hr.change hid rfl rfl rfl (Nat.le_refl _) (fun _ _ _ => rfl) (fun _ h => .inl h) (fun _ h => h) (fun q g h => by cases h) (fun i sz' off len y h => Z1k (id := id) i sz' off len y h) (fun i q sz' j y h => Z1j (id := id) i q sz' j y h) (fun i q y h => ?_) (fun _ => .inr rfl) (Z3 _ _ _)⟩
 simp only [Z2j]
 by_cases hi : i = id
 ·subst hi
  rw [if_pos rfl]
  cases h with
  | f _ _ h => cases h
  | nm _ _ gs V' h h5 =>
   rw [h1] at h
   injection h with h
   injection h with e1 e2
   subst e2
   split
   ·refine .f _ _ ?_
    rcases Nat.eq_zero_or_pos es.length with h0 | h0
    ·have : es = [] := List.eq_nil_of_length_eq_zero h0
     subst this
     obtain ⟨A, c, h⟩ := h4.rhdr.slice
     rw [h]; exact .nil0 _ _ _
    ·obtain ⟨g, b, c, n, hR, hv⟩ := h4.rhdr.pos h0
     obtain ⟨g', b', c', cur, i7, i8, i9, _⟩ := h4.cell h0
     rw [hR] at i7
     injection i7 with j1 j2 j3 j4
     subst j1 j2 j3
     rw [hv]
     have hget : ∀ i cs, (es.map fun row => [AV.ro sz row])[i]? = some cs → ∃ row, es[i]? = some row ∧ cs = [AV.ro sz row] := fun i cs hi => by
      rw [List.getElem?_map, Option.map_eq_some_iff] at hi
      obtain ⟨row, h, rfl⟩ := hi
      exact ⟨row, h, rfl⟩
     have hj0 : ∀ (row : List (List AV)) (j : Nat) (x : AV), ([AV.ro sz row] : List AV)[j]? = some x → j = 0 ∧ x = AV.ro sz row := fun row j x hj => by
      have hj' : j = 0 := by have := (List.getElem?_eq_some_iff.1 hj).1; simp at this; omega
      subst hj'
      cases hj
      exact ⟨rfl, rfl⟩
     refine .ro 1 es.length c _ ⟨g, b * 1, none⟩ (fun i _ => V [1, i]) (by simp) i9 (hown g (.inl (by rw [hR]; rfl))) (fun cs hcs => ?_) (fun i cs j x hi hj => ?_) (fun i cs j x hi hj => ?_)
     ·obtain ⟨i, hi⟩ := List.getElem?_of_mem hcs
      obtain ⟨row, _, rfl⟩ := hget i cs hi
      rfl
     ·obtain ⟨row, hrow, rfl⟩ := hget i cs hi
      obtain ⟨rfl, rfl⟩ := hj0 row j x hj
      obtain ⟨g2, b2, c2, cur2, k7, k8, k9, k10, k11, k12, k13, k14⟩ := h4.cell (List.getElem?_eq_some_iff.1 hrow).1
      rw [hR] at k7
      injection k7 with e1 e2 e3 e4
      subst e1 e2 e3
      refine ⟨?_, k13⟩
      rw [Zp]
      simp [World.cell?, k10, k12]
     ·obtain ⟨row, hrow, rfl⟩ := hget i cs hi
      obtain ⟨rfl, rfl⟩ := hj0 row j x hj
      exact row_ro (h4.row i row hrow) (h4.hdr i row hrow (by simp)) (fun _ h => .inl h) (fun g hg => hown g (.inr ⟨i, hg⟩))
   ·exact .f _ _ (.any _)
 ·rw [if_neg hi]
  have hs := Zb σ none hi
  cases h with
  | f _ _ h => cases h
  | nm _ _ gs V h h1 => exact .nm _ _ gs V (hs.trans h) h1
theorem Zdg (hT : Zf P T) {t e : Nat} {y : Operand} (ho : o.op = .convert t t y) {m p : Nat} {z : Value} (ht : T t = some ⟨.slice e, m, p, z⟩) {m' p' : Nat} {z' : Value} (he : T e = some ⟨.int .u8, m', p', z'⟩)
  {id e0 : Nat} {es : List (List AV)} (hy : s.ev y = .own id 1 0 es.length) (hq : s.heap[id]? = some (.row e0 1 es)) (hpos : 0 < es.length) (hd : dOK X.n o.dst)
  (hK : K (St.put ⟨Zt (Z6 id) s.env, (s.heap.map (AObj.sub (Z6 id))).set id .dead⟩ o.dst (.ro 1 es))) : opWP P X o K s := by
 refine opWP.mem (fun σ F a w hr => ?_) hd
 have hid : id < s.heap.length := (List.getElem?_eq_some_iff.1 hq).1
 obtain ⟨q, h1, h2⟩ := Z60 (hr.heap.obj id _ hq)
 have h3 := Z93 (hy ▸ hr.ev y) h1
 obtain ⟨g, b, c, rfl⟩ := h2.pos hpos
 have hv := h3.at hpos
 obtain ⟨_, h4, h5, cur, h6, h7, h8, h9⟩ := h2.at
 have hu : P.underlying t = some (.slice e) := (hT _ _ ht).kind
 have hue : P.underlying e = some (.int .u8) := (hT _ _ he).kind
 have hsh : w.shape? g = some (e0, cur.size) := by simp [World.shape?, h6]
 have hlt := hr.heap.lt _ _ (.at h1)
 let w' : World := w.freeze ⟨g, cur.size, none⟩ 1
 have hg' : w'.heap[g]? = some (.cells cur e0 (cur.size, cur.size + 1)) := by
  simp only [w', World.freeze]
  rw [if_neg (by decide)]
  simp only [Array.getElem?_modify, if_true, h6, Option.map_some]
  rfl
 have hoth : ∀ g', g' ≠ g → w'.heap[g']? = w.heap[g']? := fun g' hn => by
  simp only [w', World.freeze]
  rw [if_neg (by decide)]
  simp only [Array.getElem?_modify]
  rw [if_neg (fun e => hn e.symm)]
 have hsize : w.heap.size ≤ w'.heap.size := by
  simp only [w', World.freeze]
  rw [if_neg (by decide)]
  simp
 have hrun : (execOp a.eval o).run P w = .ok (.value (a.eval y)) w' := by
  rw [hv]
  simp [execOp, ho, hv, convert, run_underlying hu, run_underlying hue, markStringish, hsh, w']
 let F' : Nat → Prop := fun b => F b ∨ hasB σ id b
 have hFb : ∀ b, F b → w'.heap[b]? = w.heap[b]? := fun b hb => hoth b (fun e => hlt.2 (e ▸ hb))
 have hro : RepF F' w' (.ro 1 es) (a.eval y) := by
  rw [hv]
  refine .ro 1 es.length c es ⟨g, b * 1, none⟩ (fun i j => (cur[(b + i) * 1 + j]?).getD undef) rfl h4 (.inr (.at h1)) h8 (fun i cs j x hi hj => ?_) (fun i cs j x hi hj => ?_)
  ·obtain ⟨u, k1, k2, k3⟩ := h9 i cs j x hi hj
   simp only [k1, Option.getD_some]
   refine ⟨?_, k2⟩
   rw [Zp, ← Nat.add_assoc, ← Nat.add_mul]
   simp [World.cell?, hg', k1]
   simpa using k1
  ·obtain ⟨u, k1, k2, k3⟩ := h9 i cs j x hi hj
   simp only [k1, Option.getD_some]
   exact k3.mono (fun _ h => .inl h) hFb
 exact ⟨a.eval y, w', upd σ id none, F', _, .ro 1 es, hrun, hr.change (ob := .dead) hid rfl rfl rfl hsize (fun g' _ hn => hoth g' (fun e => hn (e ▸ .at h1))) (fun _ h => .inl h) (fun _ h => h) (fun q g h => by cases h) Z1k Z1j Z1v (fun _ => .inr rfl) (Z3 _ _ _), .f _ _ hro, hK⟩
end
end Go.Proofs.YtcphmeggalaplaaDoor.Eng
set_option linter.unusedVariables false
set_option linter.unusedSimpArgs false
namespace Go.Proofs.YtcphmeggalaplaaDoor.Eng
open Go Go.RowKit
def Z31 (v : Value) (g : Nat) : Array Value := match decide (g = 1000000) with | true => #[v] | false => #[v, .func (.func g) #[] #[]]
theorem Zbe (v : Value) : Z31 v 1000000 = #[v] := rfl
theorem Zbd (v : Value) {g : Nat} (h : g ≠ 1000000) : Z31 v g = #[v, .func (.func g) #[] #[]] := by unfold Z31; rw [decide_eq_false h]
structure SortPair (P : Program) (f g k : Nat) (xs ys : List (List Value)) : Prop where
 len : ys.length = xs.length
 size : ∀ c ∈ ys, c.length = k
 one : ∀ c ∈ ys, ∀ v ∈ c, v.oneCell' = true
 atNone : xs = [] → ∀ (p : Option Addr) (cap : Nat) (w : World), Calls P f (Z31 (.slice p 0 cap) g) w fun e w' => e = .returned (.tuple #[]) ∧ w' = w
 atSome : xs ≠ [] → ∀ (blk off cap : Nat) (w : World), Sort.Holds id w blk off xs.flatten.toArray → blk < w.heap.size → Calls P f (Z31 (.slice (some ⟨blk, off, none⟩) xs.length cap) g) w fun e w' => e = .returned (.tuple #[]) ∧ ∃ n os, w' = Sort.grow (Sort.putRow id (Sort.ahead w n) blk off ys.flatten.toArray) os
theorem Z2l {α : Type} {k : Nat} : ∀ {xs : List (List α)}, (∀ c ∈ xs, c.length = k) → xs.flatten.length = xs.length * k
 | [], _ => by simp
 | c :: xs, h => by
  have h1 := h c (List.mem_cons_self ..)
  have h2 := Z2l (xs := xs) (fun c hc => h c (List.mem_cons_of_mem _ hc))
  simp only [List.flatten_cons, List.length_append, List.length_cons, h1, h2, Nat.succ_mul]; omega
theorem Z2m {α : Type} {k : Nat} : ∀ {xs : List (List α)} {i j : Nat} {c : List α}, (∀ c ∈ xs, c.length = k) → xs[i]? = some c → j < k → xs.flatten[i * k + j]? = c[j]?
 | [], i, j, c, _, hi, _ => by simp at hi
 | d :: xs, 0, j, c, h, hi, hj => by
  simp at hi
  subst hi
  rw [Nat.zero_mul, Nat.zero_add, List.flatten_cons, List.getElem?_append_left (by rw [h d (List.mem_cons_self ..)]; exact hj)]
 | d :: xs, i + 1, j, c, h, hi, hj => by
  have hd := h d (List.mem_cons_self ..)
  rw [List.flatten_cons, List.getElem?_append_right (by rw [hd, Nat.succ_mul]; omega), hd]
  have e : (i + 1) * k + j - k = i * k + j := by rw [Nat.succ_mul]; omega
  rw [e]
  exact Z2m (fun c hc => h c (List.mem_cons_of_mem _ hc)) (by simpa using hi) hj
def rowV (xs : List (List Value)) : List (List AV) := xs.map fun c => c.map .v
section
variable {P : Program} {T : Tab} {X : Ctx} {σ σ' : Nat → Option Blk} {F F' : Nat → Prop} {s s' : St} {a : Act} {w w' : World} {o : Oper} {c : Prop} {x : AV} {v : Value} {K : St → Prop}
theorem Z73 {xs : List (List Value)} {i : Nat} {cs : List AV} (h : (rowV xs)[i]? = some cs) : ∃ c, xs[i]? = some c ∧ cs = c.map .v := by
 unfold rowV at h
 rw [List.getElem?_map, Option.map_eq_some_iff] at h
 obtain ⟨c, h1, rfl⟩ := h
 exact ⟨c, h1, rfl⟩
theorem RepAt.turnObj (hr : RepAt X σ F s a w) {i : Nat} (hid : i < s.heap.length) {g b c n : Nat} (hs : σ i = some (.at_ g b c n)) {ob : AObj} (h1 : w'.os = w.os) (h2 : w'.tape = w.tape) (h3 : w'.output = w.output) (h4 : w.heap.size ≤ w'.heap.size) (h5 : ∀ g', g' < w.heap.size → g' ≠ g → w'.heap[g']? = w.heap[g']?) (hob : RepO σ F w' i ob) : RepAt X σ F ⟨s.env, s.heap.set i ob⟩ a w' := by
 have hgF : ¬ F g := (hr.heap.lt _ _ (.at hs)).2
 have hF : ∀ b, F b → w'.heap[b]? = w.heap[b]? := fun b hb => h5 b (hr.heap.flt b hb) (fun e => hgF (e ▸ hb))
 have hup : upd σ i (σ i) = σ := by
  funext q
  unfold upd
  split
  ·rename_i e; rw [e]
  ·rfl
 have h := hr.change (w' := w') (F' := F) (f := _root_.id) (k := σ i) (ob := ob) hid h1 h2 h3 h4 (fun g1 hg1 hne => h5 g1 hg1 (fun e => hne (.at (e ▸ hs)))) (fun _ h => h) (fun _ h => .inl h)
  (fun q1 g1 h hg => ⟨Nat.lt_of_lt_of_le (hr.heap.lt _ _ ⟨q1, h, hg⟩).1 h4, (hr.heap.lt _ _ ⟨q1, h, hg⟩).2, .inl ⟨q1, h, hg⟩⟩)
  (fun q sz off len y h => by rw [hup]; exact h.mono (fun _ h => h) hF) (fun q k sz j y h => by rw [hup]; exact h.mono (fun _ h => h) hF) (fun q k y h => by rw [hup]; exact h.mono (fun _ h => h) hF) (fun _ => .inl rfl) (by rw [hup]; exact hob)
 rw [hup, Z5l, Z6e] at h
 exact h
theorem op_sort {fop : Operand} {y : Operand} {zs : List Operand} {ar : Array Operand} {ts : Array Nat} (ho : o.op = .call { callee := .value fop, args := ar, argTypes := ts }) (har : ar.toList = y :: zs) {f g k : Nat} (hf : s.ev fop = .fn f []) (hE : Enters P f) {xs ys : List (List Value)} (hp : SortPair P f g k xs ys)
  (hk : ∀ c ∈ xs, c.length = k) {id e0 : Nat} (hy : s.ev y = .own id k 0 xs.length) (hz : (g = 1000000 ∧ zs = []) ∨ (g ≠ 1000000 ∧ ∃ z, zs = [z] ∧ s.ev z = .fn g [])) (hq : s.heap[id]? = some (.row e0 k (rowV xs))) (hd : dOK X.n o.dst) (hK : K (St.put ⟨s.env, s.heap.set id (.row e0 k (rowV ys))⟩ o.dst .any)) : opWP P X o K s := by
 rintro Qc next a w hn ⟨σ, F, hr⟩
 have hid : id < s.heap.length := (List.getElem?_eq_some_iff.1 hq).1
 obtain ⟨us, hfv, hul, _⟩ := RepV.fnv (hf ▸ hr.ev fop)
 obtain rfl : us = [] := List.eq_nil_of_length_eq_zero hul.symm
 have hva : ar.map a.eval ++ #[] = Z31 (a.eval y) g := by
  rcases hz with ⟨rfl, rfl⟩ | ⟨hg, z, rfl, hz⟩
  ·apply Array.ext'
   simp [har, Zbe]
  ·obtain ⟨vs, hzv, hvl, _⟩ := RepV.fnv (hz ▸ hr.ev z)
   obtain rfl : vs = [] := List.eq_nil_of_length_eq_zero hvl.symm
   have hzv' : a.eval z = .func (.func g) #[] #[] := hzv
   rw [Zbd _ hg, ← hzv']
   apply Array.ext'
   simp [har]
 have hrun : (execOp a.eval o).run P w = .ok (.enter f (Z31 (a.eval y) g)) w := by
  simp [execOp, ho, resolve, hfv, Deferred.ofValue, invoke, hE (Z31 (a.eval y) g) w]
  simpa using hva ▸ hE (Z31 (a.eval y) g) w
 obtain ⟨q, h1, h2⟩ := Z60 (hr.heap.obj id _ hq)
 have h3 := Z93 (hy ▸ hr.ev y) h1
 unfold Oper.wp
 rw [hrun]
 show Calls P f (Z31 (a.eval y) g) w _
 have hrl : (rowV xs).length = xs.length := by simp [rowV]
 by_cases h0 : xs = []
 ·obtain ⟨A, cap, hv⟩ := h3.slice
  rw [hv]
  have hys : ys = [] := List.eq_nil_of_length_eq_zero (by rw [hp.len, h0]; rfl)
  rw [h0]
  refine (hp.atNone h0 A cap w).mono ?_
  rintro e w' ⟨rfl, rfl⟩
  have hsame : s.heap.set id (.row e0 k (rowV ys)) = s.heap := by
   rw [hys, ← h0]
   apply List.ext_getElem?
   intro j
   by_cases hj : id = j
   ·subst hj; rw [List.getElem?_set_self hid, hq]
   ·rw [List.getElem?_set_ne hj]
  rw [hsame] at hK
  exact hn _ _ _ hK ⟨σ, F, hr.put hd (.f _ _ (.any _))⟩
 ·have hpos : 0 < xs.length := List.length_pos_iff.2 h0
  obtain ⟨gb, b, c, rfl⟩ := h2.pos (by rw [hrl]; exact hpos)
  rw [hrl] at h1 h2 h3
  have hv := h3.at hpos
  rw [hv]
  obtain ⟨_, h4, h5, cur, h6, h7, h8, h9⟩ := h2.at
  rw [hrl] at h4
  have hlt := hr.heap.lt _ _ (.at h1)
  have hfl := Z2l hk
  have hkpos : ∀ t, t < xs.length * k → 0 < k := fun t ht => by
   rcases Nat.eq_zero_or_pos k with h | h
   ·rw [h, Nat.mul_zero] at ht; omega
   ·exact h
  have hcell : ∀ t, t < xs.length * k → ∃ u, cur[b * k + t]? = some u ∧ xs.flatten[t]? = some u := fun t ht => by
   obtain ⟨i, j, hi, hj, rfl⟩ := Zo ht
   have hi2 := List.getElem?_eq_getElem hi
   have hcl := hk _ (List.getElem_mem hi)
   have hj2 : j < (xs[i]).length := by rw [hcl]; exact hj
   obtain ⟨u, k1, k2, k3⟩ := h9 i (xs[i].map .v) j (.v xs[i][j]) (by unfold rowV; rw [List.getElem?_map, hi2]; rfl) (by rw [List.getElem?_map, List.getElem?_eq_getElem hj2]; rfl)
   have hu : u = xs[i][j] := by cases k3; rfl
   refine ⟨u, ?_, ?_⟩
   ·rw [← k1, Nat.add_mul]; congr 1; omega
   ·rw [Z2m hk hi2 hj, List.getElem?_eq_getElem hj2, hu]
  have hH : Sort.Holds _root_.id w gb (b * k) xs.flatten.toArray := fun t ht => by
   have ht' : t < xs.length * k := by simpa [hfl] using ht
   obtain ⟨u, k1, k2⟩ := hcell t ht'
   have k3 : xs.flatten.toArray[t]! = u := by
    rw [getElem!_pos _ t ht]
    have : xs.flatten.toArray[t]? = some u := by simpa using k2
    rw [Array.getElem?_eq_getElem ht] at this
    exact Option.some.inj this
   refine ⟨?_, ?_⟩
   ·rw [k3]
    simp only [World.cell?, h6]
    simpa using k1
   ·simp [World.frozen?, h6]
  refine (hp.atSome h0 gb (b * k) c w hH hlt.1).mono ?_
  rintro e w' ⟨rfl, n, os, rfl⟩
  have hyl : ys.flatten.length = xs.length * k := by rw [Z2l hp.size, hp.len]
  let Y := ys.flatten.toArray
  let cur' := Sort.putCells _root_.id (b * k) Y cur
  have hw1 : (Sort.putRow _root_.id (Sort.ahead w n) gb (b * k) Y).heap[gb]? = some (.cells cur' e0 (0, 0)) := by
   simp only [Sort.putRow, Sort.mapBlock, Array.getElem?_modify, if_true]
   rw [show (Sort.ahead w n).heap = w.heap from rfl, h6]
   rfl
  have hsz : (Sort.putRow _root_.id (Sort.ahead w n) gb (b * k) Y).heap.size = w.heap.size := by simp
  have hw : (Sort.grow (Sort.putRow _root_.id (Sort.ahead w n) gb (b * k) Y) os).heap[gb]? = some (.cells cur' e0 (0, 0)) := by
   rw [Sort.heap_grow_old _ _ (by rw [hsz]; exact hlt.1)]; exact hw1
  have hcs : cur'.size = cur.size := by simp [cur', Sort.putCells]
  have hget : ∀ t, t < xs.length * k → ∀ u, ys.flatten[t]? = some u → cur'[b * k + t]? = some u := fun t ht u hu => by
   obtain ⟨u0, k1, _⟩ := hcell t ht
   simp only [cur', Sort.putCells, Array.getElem?_mapIdx, k1, Option.map_some]
   rw [if_pos ⟨by omega, by simp only [Y, List.size_toArray, hyl]; omega⟩, show b * k + t - b * k = t by omega]
   have htl : t < Y.size := by simp only [Y, List.size_toArray, hyl]; exact ht
   have : Y[t]? = some u := by simpa [Y] using hu
   rw [getElem!_pos Y t htl]
   rw [Array.getElem?_eq_getElem htl] at this
   exact congrArg some (Option.some.inj this)
  refine hn _ _ _ hK ⟨σ, F, (hr.turnObj (w' := Sort.grow (Sort.putRow _root_.id (Sort.ahead w n) gb (b * k) Y) os) (ob := .row e0 k (rowV ys)) hid h1 rfl rfl rfl ?_ (fun g' hg' hne => ?_) ?_).put hd (.f _ _ (.any _))⟩
  ·show w.heap.size ≤ ((Sort.putRow _root_.id (Sort.ahead w n) gb (b * k) Y).heap ++ os).size
   rw [Array.size_append, hsz]; omega
  ·rw [Sort.heap_grow_old _ _ (by rw [hsz]; exact hg')]
   simp only [Sort.putRow, Sort.mapBlock, Array.getElem?_modify]
   rw [if_neg (fun e => hne e.symm)]
   rfl
  ·have hyr : (rowV ys).length = xs.length := by simp [rowV, hp.len]
   refine .inr ⟨gb, b, c, cur', by rw [hyr]; exact h1, by rw [hyr]; exact h4, h5, hw, by rw [hcs]; exact h7, fun cs hcs' => ?_, fun i cs j x hi hj => ?_⟩
   ·obtain ⟨i, hi⟩ := List.getElem?_of_mem hcs'
    obtain ⟨c', k1, rfl⟩ := Z73 hi
    rw [List.length_map]; exact hp.size c' (List.mem_of_getElem? k1)
   ·obtain ⟨c', k1, rfl⟩ := Z73 hi
    rw [List.getElem?_map, Option.map_eq_some_iff] at hj
    obtain ⟨u, k2, rfl⟩ := hj
    have hcl := hp.size c' (List.mem_of_getElem? k1)
    have hj' : j < k := by have := (List.getElem?_eq_some_iff.1 k2).1; omega
    have hi' : i < xs.length := by have := (List.getElem?_eq_some_iff.1 k1).1; rw [hp.len] at this; exact this
    have htl : i * k + j < xs.length * k := by
     have : (i + 1) * k ≤ xs.length * k := Nat.mul_le_mul_right _ hi'
     rw [Nat.succ_mul] at this; omega
    refine ⟨u, ?_, hp.one c' (List.mem_of_getElem? k1) u (List.mem_of_getElem? k2), .v _⟩
    rw [Nat.add_mul, Nat.add_assoc]
    exact hget _ htl u ((Z2m hp.size k1 hj').trans k2)
end
end Go.Proofs.YtcphmeggalaplaaDoor.Eng
set_option linter.unusedVariables false
set_option linter.unusedSimpArgs false
namespace Go.Proofs.YtcphmeggalaplaaDoor.Eng
open Go Go.RowKit
section
variable {P : Program} {T : Tab} {X : Ctx} {σ σ' : Nat → Option Blk} {F F' : Nat → Prop} {s s' : St} {a : Act} {w w' : World} {o : Oper} {c : Prop} {x : AV} {v : Value} {K : St → Prop}
theorem RowRep.store {g b c n e sz k j : Nat} {es : List (List AV)} (h : RowRep (.at_ g b c n) F w e sz es) (hk : k < es.length) {vs : List Value} {cs : List AV} (hl : vs.length = cs.length) (hb : j + cs.length ≤ sz) (h1 : ∀ u ∈ vs, u.oneCell' = true)
  (hr : ∀ (p : Nat) (x : AV) (u : Value), cs[p]? = some x → vs[p]? = some u → RepF F w x u) (hgF : ¬ F g) : ∃ cur : Array Value, w.heap[g]? = some (.cells cur e (0, 0)) ∧ (b + k) * sz + j + vs.length ≤ cur.size ∧
   RowRep (.at_ g b c n) F (w.setRow g (cur.toList.take ((b + k) * sz + j) ++ vs ++ cur.toList.drop ((b + k) * sz + j + vs.length)).toArray) e sz (es.set k (putA (getRow es k) j cs)) := by
 obtain ⟨e4, hle, hbc, cur, hg, hcs, hes, hcell⟩ := h.at
 have hrow : (b + k) * sz + sz ≤ cur.size := by
  rw [hcs, ← Nat.succ_mul]
  exact Nat.mul_le_mul_right _ (by omega)
 have hbb : (b + k) * sz + j + vs.length ≤ cur.size := by omega
 have hrk : es[k]? = some (getRow es k) := by simp [getRow, List.getElem?_eq_getElem hk]
 have hrl : (getRow es k).length = sz := hes _ (List.mem_of_getElem? hrk)
 refine ⟨cur, hg, hbb, ?_⟩
 refine .inr ⟨g, b, c, _, by rw [List.length_set, e4], by simpa using hle, hbc, setRow_heap w g _ _ e _ hg, by rw [Z3i _ _ _ hbb, hcs], fun r hr' => ?_, fun q r p x hq' hp => ?_⟩
 ·rcases List.mem_or_eq_of_mem_set hr' with h9 | h9
  ·exact hes r h9
  ·subst h9; simp [putA]; omega
 ·rw [Z23 _ _ _ hbb]
  have hmv : ∀ x u, RepF F w x u → RepF F (w.setRow g (cur.toList.take ((b + k) * sz + j) ++ vs ++ cur.toList.drop ((b + k) * sz + j + vs.length)).toArray) x u :=
   fun x u h => h.mono (fun _ h => h) (fun b hb => setRow_other w g b _ (fun e => hgF (e ▸ hb)))
  by_cases hqk : q = k
  ·subst hqk
   rw [List.getElem?_set_self hk] at hq'
   injection hq' with hq'
   subst hq'
   rw [Z74 _ _ _ _ (by omega)] at hp
   split at hp
   ·rename_i hcnd
    have hlt : p - j < vs.length := by omega
    rw [if_pos (by omega), show (b + q) * sz + p - ((b + q) * sz + j) = p - j by omega]
    exact ⟨_, List.getElem?_eq_getElem hlt, h1 _ (List.getElem_mem hlt), hmv _ _ (hr _ x _ hp (List.getElem?_eq_getElem hlt))⟩
   ·rename_i hcnd
    obtain ⟨u, h9, h10, h11⟩ := hcell q _ p x hrk hp
    rw [if_neg (by omega)]
    exact ⟨u, h9, h10, hmv _ _ h11⟩
  ·rw [List.getElem?_set_ne (by omega)] at hq'
   obtain ⟨u, h9, h10, h11⟩ := hcell q r p x hq' hp
   have hps : p < sz := by have := (List.getElem?_eq_some_iff.1 hp).1; rw [hes r (List.mem_of_getElem? hq')] at this; exact this
   rw [if_neg ?_]
   ·exact ⟨u, h9, h10, hmv _ _ h11⟩
   ·rintro ⟨h12, h13⟩
    rcases Nat.lt_or_gt_of_ne hqk with h14 | h14
    ·have : (b + q + 1) * sz ≤ (b + k) * sz := Nat.mul_le_mul_right _ (by omega)
     rw [Nat.succ_mul] at this
     omega
    ·have : (b + k + 1) * sz ≤ (b + q) * sz := Nat.mul_le_mul_right _ (by omega)
     rw [Nat.succ_mul] at this
     omega
theorem Z9t {t : Nat} {y z : Operand} (ho : o.op = .store t y z) (hT : Zf P T) {i : TI} (hi : T t = some i) {id q k j : Nat} (hy : s.ev y = .nm id [3, q, k, j]) {e ei sz : Nat} {es : List (List (List AV))} (hq : s.heap[id]? = some (.tree e ei sz none es))
  {row : List (List AV)} (hrow : es[q]? = some row) (hk : k < row.length) (hf : (s.ev z).full = true) (hfl : (cellsOf (s.ev z)).all AV.flat = true) (hsize : (cellsOf (s.ev z)).length = i.size) (hb : j + i.size ≤ sz) (hd : dOK X.n o.dst)
  (hK : K (St.put ⟨s.env, s.heap.set id (.tree e ei sz none (es.set q (row.set k (putA (getRow row k) j (cellsOf (s.ev z))))))⟩ o.dst .any)) : opWP P X o K s := by
 refine opWP.unit (fun σ F a w hr => ?_) hd
 have hid : id < s.heap.length := (List.getElem?_eq_some_iff.1 hq).1
 obtain ⟨R, B, V, h1, h2, h3, h4⟩ := Z25 hr hy hq
 have hql : q < es.length := (List.getElem?_eq_some_iff.1 hrow).1
 have hrr := h4.row q row hrow
 obtain ⟨g, b, c, hB⟩ := hrr.pos (by omega)
 have hown : ∀ g, Z15 R B g → hasB σ id g := fun g hg => ⟨_, h1, hg⟩
 have hBg : (B q).has g := by rw [hB]; rfl
 have hlt := hr.heap.lt _ _ (hown g (.inr ⟨q, hBg⟩))
 have hv : V [3, q, k, j] = .pointer (some ⟨g, (b + k) * sz + j, none⟩) := h4.ptr q g b c _ hB k j
 rw [hv] at h2
 have hx := hr.ev z
 obtain ⟨h6, h7, h8⟩ := hx.cells hf
 rw [hB] at hrr
 obtain ⟨cur, c1, c2, c3⟩ := RowRep.store (j := j) hrr hk (vs := (a.eval z).cells.toList) (cs := cellsOf (s.ev z)) h6 (by rw [hsize]; exact hb) h7 (fun p x u hp hu => (h8 p x u hp hu).toF (List.all_eq_true.1 hfl x (List.mem_of_getElem? hp))) hlt.2
 have hrun := Z5a (w := w) (hT _ _ hi) ho h2 c1 (by rw [h6, hsize]) h7 (by omega)
 let cur' : Array Value := (cur.toList.take ((b + k) * sz + j) ++ (a.eval z).cells.toList ++ cur.toList.drop ((b + k) * sz + j + (a.eval z).cells.toList.length)).toArray
 have hoth : ∀ g', g' ≠ g → (w.setRow g cur').heap[g']? = w.heap[g']? := fun g' hn => setRow_other w g g' _ hn
 have hRF : ∀ x y, RepF F w x y → RepF F (w.setRow g cur') x y := fun x y h => h.mono (fun _ h => h) (fun b hb => hoth b (fun e => hlt.2 (e ▸ hb)))
 have hT' : TreeRep F (w.setRow g cur') e ei sz none (es.set q (row.set k (putA (getRow row k) j (cellsOf (s.ev z))))) R B V := by
  refine ⟨?_, ?_, h4.rptr, fun j' r hj => ?_, fun j' r hj hp => ?_, fun j' hj => (by cases hj), h4.ptr, fun j' hj => h4.out j' (by simpa using hj), h4.apart, h4.inj⟩
  ·rw [List.length_set]
   exact h4.root.mono hRF (fun g' hg' => hoth g' (fun e => h4.apart q g' hg' (e ▸ hBg)))
  ·rw [List.length_set]
   exact h4.rhdr.mono
  ·by_cases hjq : j' = q
   ·subst hjq
    rw [List.getElem?_set_self hql] at hj
    cases hj
    rw [hB]; exact c3
   ·rw [List.getElem?_set_ne (by omega)] at hj
    exact (h4.row j' r hj).mono hRF (fun g' hg' => hoth g' (fun e => hjq (h4.inj _ _ g' hg' (e ▸ hBg))))
  ·by_cases hjq : j' = q
   ·subst hjq
    rw [List.getElem?_set_self hql] at hj
    cases hj
    rw [List.length_set]
    exact (h4.hdr j' row hrow hp).mono
   ·rw [List.getElem?_set_ne (by omega)] at hj
    exact (h4.hdr j' r hj hp).mono
 have hup : upd σ id (σ id) = σ := by
  funext q
  unfold upd
  split
  ·rename_i e; rw [e]
  ·rfl
 have h := hr.change (w' := w.setRow g cur') (F' := F) (f := _root_.id) (k := σ id) (ob := .tree e ei sz none (es.set q (row.set k (putA (getRow row k) j (cellsOf (s.ev z)))))) hid rfl rfl rfl (by simp) (fun g1 hg1 hne => hoth g1 (fun e => hne (hown _ (.inr ⟨q, e ▸ hBg⟩)))) (fun _ h => h) (fun _ h => .inl h)
  (fun q1 g1 h hg => ⟨by simpa using (hr.heap.lt _ _ ⟨q1, h, hg⟩).1, (hr.heap.lt _ _ ⟨q1, h, hg⟩).2, .inl ⟨q1, h, hg⟩⟩)
  (fun q sz off len y h => by rw [hup]; exact h.mono (fun _ h => h) (fun b hb => setRow_other w g b _ (fun e => hlt.2 (e ▸ hb)))) (fun q k sz j y h => by rw [hup]; exact h.mono (fun _ h => h) (fun b hb => setRow_other w g b _ (fun e => hlt.2 (e ▸ hb)))) (fun q k y h => by rw [hup]; exact h.mono (fun _ h => h) (fun b hb => setRow_other w g b _ (fun e => hlt.2 (e ▸ hb)))) (fun _ => .inl rfl) (by rw [hup]; exact ⟨R, B, V, h1, hT'⟩)
 rw [hup, Z5l, Z6e] at h
 exact ⟨_, σ, F, _, hrun, h, hK⟩
end
end Go.Proofs.YtcphmeggalaplaaDoor.Eng
set_option linter.unusedVariables false
set_option linter.unusedSimpArgs false
namespace Go.Proofs.YtcphmeggalaplaaDoor.Eng
open Go Go.RowKit
section
variable {P : Program} {T : Tab} {X : Ctx} {σ σ' : Nat → Option Blk} {F F' : Nat → Prop} {s s' : St} {a : Act} {w w' : World} {o : Oper} {c : Prop} {x : AV} {v : Value} {K : St → Prop}
theorem RepV.mpv {es : List (ByteArray × Value)} {y : Value} (h : RepV σ F w (.mp es) y) : RepF F w (.mp es) y := by
 cases h with
 | f _ _ h => exact h
theorem Ziq {t kt et : Nat} {y : Operand} (ho : o.op = .range t y) (ht : P.underlying t = some (.map kt et)) {es : List (ByteArray × Value)} (hy : s.ev y = .mp es) (hd : dOK X.n o.dst)
  (hK : K (St.put { s with heap := s.heap ++ [.iter none es] } o.dst (.nm s.heap.length []))) : opWPG P X o K s := by
 refine opWPG.mem (fun σ F a w hr => ?_) hd
 have hv := RepV.mpv (hy ▸ hr.ev y)
 have fin : ∀ (om : Option Nat) (c : Nat), (execOp a.eval o).run P w = .ok (.value (.pointer (some ⟨w.heap.size, 0, none⟩))) (w.alloc (.mapIter om c #[] c)) → IterIs F (w.alloc (.mapIter om c #[] c)) om c #[] c none es →
   ∃ v w' σ' F' s' x, (execOp a.eval o).run P w = .ok (.value v) w' ∧ Grow w w' ∧ RepAt X σ' F' s' a w' ∧ RepV σ' F' w' x v ∧ K (s'.put o.dst x) := by
  intro om c hrun hit
  refine ⟨.pointer (some ⟨w.heap.size, 0, none⟩), _, _, F, _, _, hrun, Grow.alloc w _, (hr.ext (Ext.alloc w (.mapIter om c #[] c))).new (k := .ext (fun h => h = w.heap.size) fun _ => .pointer (some ⟨w.heap.size, 0, none⟩)) (ob := .iter none es) ?_ (fun g hg => ?_), ?_, hK⟩
  ·exact ⟨w.heap.size, om, c, #[], c, Z3 _ _ _, heap_alloc_new w _, hit⟩
  ·have e1 : g = w.heap.size := hg
   subst e1
   refine ⟨by simp, fun hF => ?_, hr.keep.size, fun id h => ?_⟩
   ·have := hr.heap.flt _ hF; omega
   ·have := (hr.heap.lt _ _ h).1; omega
  ·exact .nm s.heap.length [] _ _ (Z3 _ _ _) rfl
 generalize hyv : a.eval y = yv at hv
 cases hv with
 | mp0 =>
  refine fin none 0 ?_ (.inl ⟨rfl, rfl, rfl⟩)
  simp only [execOp, ho, hyv, Sem.run_bind, run_range_nilMap w t kt et ht, Result.andThen_ok]
  rfl
 | mp es g arr clock hF hg hm =>
  have hgl : g < w.heap.size := hr.heap.flt g hF
  refine fin (some g) clock ?_ ?_
  ·simp only [execOp, ho, hyv, Sem.run_bind, run_range_map w t kt et g arr clock ht hg, Result.andThen_ok]
   rfl
  ·obtain ⟨⟨es0, h1, h2⟩, h3, h4, h5⟩ := hm
   refine .inr ⟨g, arr, clock, rfl, hF, ((MapKept.heap_alloc w _).2 g hgl).trans hg, h4, h5, rfl, rfl, fun l h => (by cases h), es0, ?_, h2⟩
   rw [← h1]
   congr 1
   simp [leftOf]
end
end Go.Proofs.YtcphmeggalaplaaDoor.Eng
set_option linter.unusedVariables false
set_option linter.unusedSimpArgs false
namespace Go.Proofs.YtcphmeggalaplaaDoor.Eng
open Go Go.RowKit
section
variable {P : Program} {T : Tab} {X : Ctx} {σ σ' : Nat → Option Blk} {F F' : Nat → Prop} {s s' : St} {a a' : Act} {w w' : World} {o : Oper} {c : Prop} {x : AV} {v : Value} {K : St → Prop}
def aside (X : Ctx) (σ : Nat → Option Blk) (F : Nat → Prop) (w : World) (id : Nat) : Ctx := ⟨X.n, w, fun g => ∃ i, i ≠ id ∧ hasB σ i g, F, 0, fun _ => none, X.ro, X.rf⟩
theorem RepAt.know {d : Nat} (hr : RepAt X σ F s a w) (hv : RepV σ F w x (a.tmps.getD d undef)) : RepAt X σ F ⟨(d, x) :: s.env, s.heap⟩ a w :=
 ⟨hr.defers, hr.size, fun i => by
  simp only [envGet]
  split
  ·rename_i h; subst h; exact hv
  ·exact hr.env i, hr.heap, hr.keep, hr.own, hr.fnew, hr.stab, hr.hm⟩
end
end Go.Proofs.YtcphmeggalaplaaDoor.Eng
set_option linter.unusedVariables false
set_option linter.unusedSimpArgs false
namespace Go.Proofs.YtcphmeggalaplaaDoor.Eng
open Go Go.RowKit
structure CutPair (P : Program) (f k : Nat) (xs ys : List (List Value)) (m : Nat) : Prop where
 len : ys.length = xs.length
 le : m ≤ xs.length
 size : ∀ c ∈ ys, c.length = k
 one : ∀ c ∈ ys, ∀ v ∈ c, v.oneCell' = true
 atNone : xs = [] → ∀ (p : Option Addr) (cap : Nat) (w : World), Calls P f #[.slice p 0 cap] w fun e w' => e = .returned (.slice p 0 cap) ∧ w' = w
 atSome : xs ≠ [] → ∀ (blk off cap : Nat) (w : World), Sort.Holds id w blk off xs.flatten.toArray → blk < w.heap.size → xs.length ≤ cap → Calls P f #[.slice (some ⟨blk, off, none⟩) xs.length cap] w fun e w' => e = .returned (.slice (some ⟨blk, off, none⟩) m cap) ∧ ∃ n os, w' = Sort.grow (Sort.putRow id (Sort.ahead w n) blk off ys.flatten.toArray) os
section
variable {P : Program} {T : Tab} {X : Ctx} {σ σ' : Nat → Option Blk} {F F' : Nat → Prop} {s s' : St} {a : Act} {w w' : World} {o : Oper} {c : Prop} {x : AV} {v : Value} {K : St → Prop}
theorem op_cut {fop : Operand} {y : Operand} {ar : Array Operand} {ts : Array Nat} (ho : o.op = .call { callee := .value fop, args := ar, argTypes := ts }) (har : ar.toList = [y]) {f k m : Nat} (hf : s.ev fop = .fn f []) (hE : Enters P f) {xs ys : List (List Value)} (hp : CutPair P f k xs ys m)
  (hk : ∀ c ∈ xs, c.length = k) {id e0 : Nat} (hy : s.ev y = .own id k 0 xs.length) (hq : s.heap[id]? = some (.row e0 k (rowV xs))) (hd : dOK X.n o.dst) (hK : K (St.put ⟨s.env, s.heap.set id (.row e0 k (rowV ys))⟩ o.dst (.own id k 0 m))) : opWP P X o K s := by
 rintro Qc next a w hn ⟨σ, F, hr⟩
 have hid : id < s.heap.length := (List.getElem?_eq_some_iff.1 hq).1
 obtain ⟨us, hfv, hul, _⟩ := RepV.fnv (hf ▸ hr.ev fop)
 obtain rfl : us = [] := List.eq_nil_of_length_eq_zero hul.symm
 have hva : ar.map a.eval ++ #[] = #[a.eval y] := by
  apply Array.ext'
  simp [har]
 have hrun : (execOp a.eval o).run P w = .ok (.enter f (#[a.eval y])) w := by
  simp [execOp, ho, resolve, hfv, Deferred.ofValue, invoke, hE (#[a.eval y]) w]
  simpa using hva ▸ hE (#[a.eval y]) w
 obtain ⟨q, h1, h2⟩ := Z60 (hr.heap.obj id _ hq)
 have h3 := Z93 (hy ▸ hr.ev y) h1
 unfold Oper.wp
 rw [hrun]
 show Calls P f (#[a.eval y]) w _
 have hrl : (rowV xs).length = xs.length := by simp [rowV]
 by_cases h0 : xs = []
 ·obtain ⟨A, cap, hv⟩ := h3.slice
  rw [hv]
  have hys : ys = [] := List.eq_nil_of_length_eq_zero (by rw [hp.len, h0]; rfl)
  rw [h0]
  refine (hp.atNone h0 A cap w).mono ?_
  rintro e w' ⟨rfl, rfl⟩
  have hsame : s.heap.set id (.row e0 k (rowV ys)) = s.heap := by
   rw [hys, ← h0]
   apply List.ext_getElem?
   intro j
   by_cases hj : id = j
   ·subst hj; rw [List.getElem?_set_self hid, hq]
   ·rw [List.getElem?_set_ne hj]
  rw [hsame] at hK
  have hm0 : m = 0 := by have := hp.le; rw [h0] at this; exact Nat.le_zero.1 this
  have hvy : RepV σ F w' (.own id k 0 m) (.slice A 0 cap) := by
   have h7 := hy ▸ hr.ev y
   rw [hv, h0] at h7
   rw [hm0]
   exact h7
  exact hn _ _ _ hK ⟨σ, F, hr.put hd hvy⟩
 ·have hpos : 0 < xs.length := List.length_pos_iff.2 h0
  obtain ⟨gb, b, c, rfl⟩ := h2.pos (by rw [hrl]; exact hpos)
  rw [hrl] at h1 h2 h3
  have hv := h3.at hpos
  rw [hv]
  obtain ⟨_, h4, h5, cur, h6, h7, h8, h9⟩ := h2.at
  rw [hrl] at h4
  have hlt := hr.heap.lt _ _ (.at h1)
  have hfl := Z2l hk
  have hkpos : ∀ t, t < xs.length * k → 0 < k := fun t ht => by
   rcases Nat.eq_zero_or_pos k with h | h
   ·rw [h, Nat.mul_zero] at ht; omega
   ·exact h
  have hcell : ∀ t, t < xs.length * k → ∃ u, cur[b * k + t]? = some u ∧ xs.flatten[t]? = some u := fun t ht => by
   obtain ⟨i, j, hi, hj, rfl⟩ := Zo ht
   have hi2 := List.getElem?_eq_getElem hi
   have hcl := hk _ (List.getElem_mem hi)
   have hj2 : j < (xs[i]).length := by rw [hcl]; exact hj
   obtain ⟨u, k1, k2, k3⟩ := h9 i (xs[i].map .v) j (.v xs[i][j]) (by unfold rowV; rw [List.getElem?_map, hi2]; rfl) (by rw [List.getElem?_map, List.getElem?_eq_getElem hj2]; rfl)
   have hu : u = xs[i][j] := by cases k3; rfl
   refine ⟨u, ?_, ?_⟩
   ·rw [← k1, Nat.add_mul]; congr 1; omega
   ·rw [Z2m hk hi2 hj, List.getElem?_eq_getElem hj2, hu]
  have hH : Sort.Holds _root_.id w gb (b * k) xs.flatten.toArray := fun t ht => by
   have ht' : t < xs.length * k := by simpa [hfl] using ht
   obtain ⟨u, k1, k2⟩ := hcell t ht'
   have k3 : xs.flatten.toArray[t]! = u := by
    rw [getElem!_pos _ t ht]
    have : xs.flatten.toArray[t]? = some u := by simpa using k2
    rw [Array.getElem?_eq_getElem ht] at this
    exact Option.some.inj this
   refine ⟨?_, ?_⟩
   ·rw [k3]
    simp only [World.cell?, h6]
    simpa using k1
   ·simp [World.frozen?, h6]
  refine (hp.atSome h0 gb (b * k) c w hH hlt.1 h4).mono ?_
  rintro e w' ⟨rfl, n, os, rfl⟩
  have hyl : ys.flatten.length = xs.length * k := by rw [Z2l hp.size, hp.len]
  let Y := ys.flatten.toArray
  let cur' := Sort.putCells _root_.id (b * k) Y cur
  have hw1 : (Sort.putRow _root_.id (Sort.ahead w n) gb (b * k) Y).heap[gb]? = some (.cells cur' e0 (0, 0)) := by
   simp only [Sort.putRow, Sort.mapBlock, Array.getElem?_modify, if_true]
   rw [show (Sort.ahead w n).heap = w.heap from rfl, h6]
   rfl
  have hsz : (Sort.putRow _root_.id (Sort.ahead w n) gb (b * k) Y).heap.size = w.heap.size := by simp
  have hw : (Sort.grow (Sort.putRow _root_.id (Sort.ahead w n) gb (b * k) Y) os).heap[gb]? = some (.cells cur' e0 (0, 0)) := by
   rw [Sort.heap_grow_old _ _ (by rw [hsz]; exact hlt.1)]; exact hw1
  have hcs : cur'.size = cur.size := by simp [cur', Sort.putCells]
  have hget : ∀ t, t < xs.length * k → ∀ u, ys.flatten[t]? = some u → cur'[b * k + t]? = some u := fun t ht u hu => by
   obtain ⟨u0, k1, _⟩ := hcell t ht
   simp only [cur', Sort.putCells, Array.getElem?_mapIdx, k1, Option.map_some]
   rw [if_pos ⟨by omega, by simp only [Y, List.size_toArray, hyl]; omega⟩, show b * k + t - b * k = t by omega]
   have htl : t < Y.size := by simp only [Y, List.size_toArray, hyl]; exact ht
   have : Y[t]? = some u := by simpa [Y] using hu
   rw [getElem!_pos Y t htl]
   rw [Array.getElem?_eq_getElem htl] at this
   exact congrArg some (Option.some.inj this)
  refine hn _ _ _ hK ⟨σ, F, (hr.turnObj (w' := Sort.grow (Sort.putRow _root_.id (Sort.ahead w n) gb (b * k) Y) os) (ob := .row e0 k (rowV ys)) hid h1 rfl rfl rfl ?_ (fun g' hg' hne => ?_) ?_).put hd (by simpa using RepV.own (σ := σ) (F := F) id k 0 m gb b c xs.length h1 (by rw [Nat.zero_add]; exact hp.le) h4)⟩
  ·show w.heap.size ≤ ((Sort.putRow _root_.id (Sort.ahead w n) gb (b * k) Y).heap ++ os).size
   rw [Array.size_append, hsz]; omega
  ·rw [Sort.heap_grow_old _ _ (by rw [hsz]; exact hg')]
   simp only [Sort.putRow, Sort.mapBlock, Array.getElem?_modify]
   rw [if_neg (fun e => hne e.symm)]
   rfl
  ·have hyr : (rowV ys).length = xs.length := by simp [rowV, hp.len]
   refine .inr ⟨gb, b, c, cur', by rw [hyr]; exact h1, by rw [hyr]; exact h4, h5, hw, by rw [hcs]; exact h7, fun cs hcs' => ?_, fun i cs j x hi hj => ?_⟩
   ·obtain ⟨i, hi⟩ := List.getElem?_of_mem hcs'
    obtain ⟨c', k1, rfl⟩ := Z73 hi
    rw [List.length_map]; exact hp.size c' (List.mem_of_getElem? k1)
   ·obtain ⟨c', k1, rfl⟩ := Z73 hi
    rw [List.getElem?_map, Option.map_eq_some_iff] at hj
    obtain ⟨u, k2, rfl⟩ := hj
    have hcl := hp.size c' (List.mem_of_getElem? k1)
    have hj' : j < k := by have := (List.getElem?_eq_some_iff.1 k2).1; omega
    have hi' : i < xs.length := by have := (List.getElem?_eq_some_iff.1 k1).1; rw [hp.len] at this; exact this
    have htl : i * k + j < xs.length * k := by
     have : (i + 1) * k ≤ xs.length * k := Nat.mul_le_mul_right _ hi'
     rw [Nat.succ_mul] at this; omega
    refine ⟨u, ?_, hp.one c' (List.mem_of_getElem? k1) u (List.mem_of_getElem? k2), .v _⟩
    rw [Nat.add_mul, Nat.add_assoc]
    exact hget _ htl u ((Z2m hp.size k1 hj').trans k2)
theorem Rep.takeRow {s : St} (hr : Rep X s a w) {i id e sz len : Nat} {es : List (List AV)} (hi : envGet s.env i = .own id sz 0 len) (hq : s.heap[id]? = some (.row e sz es)) (hf : len ≤ es.length) (hm : X.m ≤ id) :
  Rep X ⟨(i, .own id sz 0 len) :: Zt (Z6 id) s.env, (s.heap.map (AObj.sub (Z6 id))).set id (.row e sz (es.take len))⟩ a w := by
 obtain ⟨σ, F, hr⟩ := hr
 have hid : id < s.heap.length := (List.getElem?_eq_some_iff.1 hq).1
 have hob := hr.heap.obj id _ hq
 have hv := hi ▸ hr.env i
 have hRF : ∀ x y, RepF F w x y → RepF F w x y := fun x y h => h
 have fin : ∀ (k : Option Blk), (∀ q g, k = some q → q.has g → g < w.heap.size ∧ ¬ F g ∧ (hasB σ id g ∨ w.heap.size ≤ g)) → RepO (upd σ id k) F w id (.row e sz (es.take len)) → RepV (upd σ id k) F w (.own id sz 0 len) (a.tmps.getD i undef) →
   Rep X ⟨(i, .own id sz 0 len) :: Zt (Z6 id) s.env, (s.heap.map (AObj.sub (Z6 id))).set id (.row e sz (es.take len))⟩ a w := by
  intro k hk hO hV
  have h1 := hr.change (w' := w) (F' := F) (f := Z6 id) hid (k := k) rfl rfl rfl (Nat.le_refl _) (fun _ _ _ => rfl) (fun _ h => h) (fun _ h => .inl h) hk (Z5i hRF) (Z5h hRF) Z1v (fun h => absurd h (Nat.not_lt.2 hm)) hO
  refine ⟨_, F, h1.defers, h1.size, fun j => ?_, h1.heap, h1.keep, h1.own, h1.fnew, h1.stab, h1.hm⟩
  simp only [envGet]
  split
  ·rename_i e; subst e; exact hV
  ·exact h1.env j
 have htl : (es.take len).length = len := by rw [List.length_take]; omega
 rcases RepV.ownv hv with ⟨h1, _, h0, h2⟩ | ⟨g, b, c, n, h1, hn, hc, h2⟩
 ·subst h0
  refine fin (some .nil) (fun q g h hg => by cases h; exact hg.elim) (.inl ⟨Z3 _ _ _, by simp⟩) ?_
  rw [h2]; exact .own0 _ _ (Z3 _ _ _)
 ·rcases hob with ⟨h3, _⟩ | ⟨g', b', c', cur, h3, h4, h5, h6, h7, h8, h9⟩
  ·rw [h1] at h3; cases h3
  ·rw [h1] at h3
   injection h3 with h3
   injection h3 with e1 e2 e3 e4
   subst e1 e2 e3
   have hlt := hr.heap.lt _ _ (.at h1)
   refine fin (some (.at_ g b c len)) (fun q1 g1 h hg1 => ?_) (.inr ⟨g, b, c, cur, ?_, ?_, h5, h6, h7, fun cs hcs => h8 cs (List.mem_of_mem_take hcs), fun j cs q x hj hx => ?_⟩) ?_
   ·cases h
    have e1 : g1 = g := hg1
    subst e1
    exact ⟨hlt.1, hlt.2, .inl (.at h1)⟩
   ·rw [Z3, htl]
   ·rw [htl]; omega
   ·rw [List.getElem?_take] at hj
    split at hj
    ·exact h9 j cs q x hj hx
    ·cases hj
   ·rcases h2 with h2 | ⟨h2, h3, h10, A, h11⟩
    ·rw [h2]
     exact RepV.own (σ := upd σ id (some (.at_ g b c len))) (F := F) (w := w) id sz 0 len g b c len (Z3 _ _ _) (by omega) (by omega)
    ·subst h2
     rw [h11]
     exact .ownz _ _ _ g b c 0 A (Z3 _ _ _) rfl (by omega)
end
end Go.Proofs.YtcphmeggalaplaaDoor.Eng
set_option linter.unusedVariables false
set_option linter.unusedSimpArgs false
namespace Go.Proofs.YtcphmeggalaplaaDoor.Eng
open Go Go.RowKit
def Says (keep : List Nat) (h : List AObj) (args : List AV) (h0 : List AObj) (args' : List AV) : Prop :=
 args'.length = args.length ∧ h0.length = keep.length ∧ ∀ (σ : Nat → Option Blk) (F : Nat → Prop) (w : World), HRep σ F w h → HRep (selσ keep σ) F w h0 ∧ ∀ (j : Nat) (x x' : AV) (v : Value), args[j]? = some x → args'[j]? = some x' → RepV σ F w x v → RepV (selσ keep σ) F w x' v
section
variable {P : Program} {T : Tab} {X : Ctx} {σ σ' : Nat → Option Blk} {F F' : Nat → Prop} {s s' : St} {a : Act} {w w' : World} {o : Oper} {c : Prop} {x : AV} {v : Value} {K : St → Prop}
theorem Zit {fop : Operand} {ar : Array Operand} {ts : Array Nat} (ho : o.op = .call { callee := .value fop, args := ar, argTypes := ts }) {f : Nat} {caps : List AV} (hf : s.ev fop = .fn f caps) (hE : Enters P f) (keep : List Nat) (hnd : keep.Nodup) (hin : ∀ i ∈ keep, i < s.heap.length)
  {args' : List AV} {h0 : List AObj} (hS : Says keep s.heap (ar.toList.map s.ev ++ caps) h0 args') {post : AV → List AObj → Prop} (spec : FSpec P f h0 args' post) (hd : dOK X.n o.dst)
  (hK : ∀ ret h', post ret h' → keep.length ≤ h'.length → (∀ k, k < keep.length → h'[k]? ≠ some .dead) ∧ K (St.put (s.back keep h') o.dst (ret.sub (Z24 keep s.heap.length)))) : opWP P X o K s := by
 rintro Qc next a w hn ⟨σ, F, hr⟩
 obtain ⟨us, hfv, hul, hur⟩ := RepV.fnv (hf ▸ hr.ev fop)
 obtain ⟨hal, h0l, hS⟩ := hS
 obtain ⟨hS1, hS2⟩ := hS σ F w hr.heap
 let vs : List Value := ar.toList.map a.eval ++ us
 have hl : args'.length = vs.length := by rw [hal]; simp [vs, hul]
 have hrep : ∀ (j : Nat) (x : AV) (u : Value), args'[j]? = some x → vs[j]? = some u → RepV (selσ keep σ) F w x u := fun j x u hx hu => by
  have hj : j < (ar.toList.map s.ev ++ caps).length := by
   rw [← hal]; exact (List.getElem?_eq_some_iff.1 hx).1
  refine hS2 j _ x u (List.getElem?_eq_getElem hj) hx ?_
  rcases Nat.lt_or_ge j ar.toList.length with h1 | h1
  ·rw [List.getElem_append_left (by simpa using h1), List.getElem_map]
   simp only [vs] at hu
   rw [List.getElem?_append_left (by simpa using h1), List.getElem?_map, List.getElem?_eq_getElem h1] at hu
   injection hu with hu
   rw [← hu]
   exact hr.ev _
  ·simp only [vs] at hu
   rw [List.getElem?_append_right (by simpa using h1), List.length_map] at hu
   rw [List.getElem_append_right (by simpa using h1)]
   simp only [List.length_map]
   exact hur _ _ u (List.getElem?_eq_getElem _) hu
 have hcalls := spec (selσ keep σ) F w vs hS1 hl hrep
 have hrun : (execOp a.eval o).run P w = .ok (.enter f vs.toArray) w := by
  have hva : ar.map a.eval ++ us.toArray = vs.toArray := by
   apply Array.ext'
   simp [vs]
  simp [execOp, ho, resolve, hfv, Deferred.ofValue, invoke, hva, hE vs.toArray w]
 unfold Oper.wp
 rw [hrun]
 show Calls P f vs.toArray w _
 refine hcalls.mono ?_
 rintro e w' ⟨ret, h', σ', F', rv, hp, rfl, h1, h2, h3, h4, h5, h6, h7⟩
 have hlen : keep.length ≤ h'.length := by rw [← h0l]; exact h7
 obtain ⟨hlive, hK'⟩ := hK ret h' hp hlen
 obtain ⟨h8, h9⟩ := hr.back hnd hin h1 h2 h3 h4 h5 (fun id hid => h6 id (by rw [h0l]; exact hid)) hlen hlive
 exact hn _ _ _ hK' ⟨_, _, h8.put hd h9⟩
def RetW (T : Tab) (fn : Func) (m : Nat) (post : AV → List AObj → Prop) (s : St) : Prop :=
 match Z5c T s fn.results.toList with
 | some (c, xs) => c ∧ ∃ extra : List Nat, (List.range m ++ extra).Nodup ∧ (∀ i ∈ extra, i < s.heap.length) ∧ ∃ ret h', post ret h' ∧ Says (List.range m ++ extra) s.heap [retAV xs] h' [ret]
 | none => False
def QretW (T : Tab) (fn : Func) (m : Nat) (post : AV → List AObj → Prop) : Exit → St → Prop
 | .normal, s => RetW T fn m post s
 | .ret, s => RetW T fn m post s
 | _, _ => False
theorem FSpec.of_WPw {P : Program} {T : Tab} (hT : Zf P T) {f : Nat} {fn : Func} {c : Code} (hf : P.funcs[f]? = some fn) (hb : fn.body = some c) {h0 : List AObj} {args : List AV} {post : AV → List AObj → Prop}
  (h : ∀ X : Ctx, X.n = args.length + (fn.ntmps - args.length) → X.m = h0.length → X.ro = none → X.rf = false → WP P X c (QretW T fn h0.length post) ⟨Z14 0 args, h0⟩) : FSpec P f h0 args post := by
 intro σ F w vs hh hl hargs
 let X : Ctx := ⟨args.length + (fn.ntmps - args.length), w, ownB σ, F, h0.length, σ, none, false⟩
 refine calls_of_wp hf hb ?_
 have hrep : RepAt X σ F ⟨Z14 0 args, h0⟩ { tmps := vs.toArray ++ Array.replicate (fn.ntmps - vs.toArray.size) undef, defers := [] } w := by
  refine ⟨rfl, by simp [X, hl], fun i => ?_, hh, Keep.refl _ _, fun id g h => .inl ⟨id, h⟩, fun b hb => .inl hb, fun id _ => .inl rfl, Nat.le_refl _⟩
  rw [envGet_enum, if_pos (Nat.zero_le _), Nat.sub_zero]
  cases hx : args[i]? with
  | none => exact .f _ _ (.any _)
  | some x =>
   have hlt : i < vs.length := by have := (List.getElem?_eq_some_iff.1 hx).1; omega
   have : (vs.toArray ++ Array.replicate (fn.ntmps - vs.toArray.size) undef).getD i undef = vs[i] := by
    rw [Array.getD_eq_getD_getElem?, Array.getElem?_append_left (by simpa using hlt)]
    simp [hlt]
   rw [this]
   exact hargs i x _ hx (List.getElem?_eq_getElem hlt)
 refine Code.wp_mono' ((WP.wide rfl).1 (h X rfl rfl rfl rfl _ _ ⟨σ, F, hrep⟩)) ?_
 have fin : ∀ s a w', RetW T fn h0.length post s → Rep X s a w' → a.defers = [] ∧ ∃ v, (results fn a.tmps).run P w' = .ok v w' ∧ ∃ ret h' σ' F' rv, post ret h' ∧ Ending.returned v = .returned rv ∧ RepV σ' F' w' ret rv ∧ HRep σ' F' w' h' ∧ Keep (ownB σ) w w' ∧
   (∀ id g, hasB σ' id g → ownB σ g ∨ w.heap.size ≤ g) ∧ (∀ b, F' b → F b ∨ ownB σ b ∨ w.heap.size ≤ b) ∧ (∀ id, id < h0.length → σ' id = σ id ∨ σ' id = none) ∧ h0.length ≤ h'.length := by
  rintro s a w' hret ⟨σ', F', hr⟩
  unfold RetW at hret
  split at hret
  ·rename_i c xs hres
   obtain ⟨hc, extra, hnd, hin, ret, h', hpost, _, hhl, hS⟩ := hret
   obtain ⟨v, hv, hrv⟩ := Z63 hT hr hres hc
   obtain ⟨hS1, hS2⟩ := hS σ' F' w' hr.heap
   refine ⟨hr.defers, v, hv, ret, h', selσ (List.range h0.length ++ extra) σ', F', v, hpost, rfl, hS2 0 _ _ v rfl rfl hrv, hS1, hr.keep, fun id g hs => ?_, hr.fnew, fun id hid => ?_, by rw [hhl]; simp⟩
   ·obtain ⟨i, _, h1⟩ := Z2v hs
    exact hr.own _ _ h1
   ·have : selσ (List.range h0.length ++ extra) σ' id = σ' id := by
     simp [selσ, List.getElem?_append_left (show id < (List.range h0.length).length by simpa using hid), List.getElem?_range hid]
    rw [this]
    exact hr.stab id hid
  ·exact hret.elim
 rintro e a w' ⟨s, hq, hr⟩
 cases e with
 | normal => exact fin s a w' hq hr
 | ret => exact fin s a w' hq hr
 | _ => exact hq.elim
end
end Go.Proofs.YtcphmeggalaplaaDoor.Eng
set_option linter.unusedVariables false
set_option linter.unusedSimpArgs false
namespace Go.Proofs.YtcphmeggalaplaaDoor.Eng
open Go Go.RowKit
def Zel (S : Nat → List AV → Prop) : List Nat → List AV → Prop
 | [], xs => xs = []
 | t :: ts, xs => ∃ a b, xs = a ++ b ∧ S t a ∧ Zel S ts b
def ShapeC (T : Tab) : Nat → Nat → List AV → Prop
 | 0, _, _ => False
 | m + 1, t, xs => match T t with
  | some ⟨.int k, _, _, _⟩ => ∃ n, xs = [.v (.int k n)] ∧ (Lit.int k n).wf = true
  | some ⟨.bool, _, _, _⟩ => ∃ b, xs = [.v (.bool b)]
  | some ⟨.str, _, _, _⟩ => ∃ s : ByteArray, xs = [.v (.string s)] ∧ s.size ≤ reachBytes
  | some ⟨.slice e, _, _, _⟩ => match T e with
   | some i => ∃ es, xs = [.ro i.size es] ∧ es.length * i.bytes ≤ reachBytes ∧ ∀ c ∈ es, ShapeC T m e c
   | none => False
  | some ⟨.struct fs, _, _, _⟩ => Zel (ShapeC T m) (fs.map (·.2)) xs
  | _ => False
def Zb9 (T : Tab) : Nat → List (Nat × Nat) → Option Nat
 | off, [] => some off
 | off, (o, t) :: r => if o = off then match T t with | some i => Zb9 T (off + i.size) r | none => none else none
def supB (T : Tab) : Nat → Nat → Bool
 | 0, _ => false
 | m + 1, t => match T t with
  | some ⟨.int _, _, _, _⟩ | some ⟨.bool, _, _, _⟩ | some ⟨.str, _, _, _⟩ => true
  | some ⟨.slice e, _, _, _⟩ => match T e with | some i => decide (0 < i.size) && supB T m e | none => false
  | some ⟨.struct fs, n, _, _⟩ => decide (Zb9 T 0 fs = some n) && fs.all (fun p => supB T m p.2)
  | _ => false
def Zax (F : Nat → Prop) (w : World) (xs : List AV) (cs : List Value) : Prop := xs.length = cs.length ∧ ∀ (j : Nat) (x : AV) (v : Value), xs[j]? = some x → cs[j]? = some v → RepF F w x v ∧ v.oneCell' = true
section
variable {H : Type} {enc : TypeId × Value → H} {P : Program} {T : Tab} {w : World} {sp : Nat → Bool} {held : Bool}
theorem TIOk.cellsOf {t : Nat} {i : TI} (h : TIOk P t i) : P.cellsOf t = i.size ∧ P.bytesOf t = i.bytes := by
 obtain ⟨x, hx, hh⟩ := Option.map_eq_some_iff.1 h.info
 simp only [Prod.mk.injEq] at hh
 simp [Program.cellsOf, Program.bytesOf, hx, hh.2.1, hh.2.2]
theorem tile_le : ∀ {l : List (Nat × Nat)} {off e : Nat}, Zb9 T off l = some e → off ≤ e
 | [], off, e, h => by simp [Zb9] at h; omega
 | (o, t) :: r, off, e, h => by
  unfold Zb9 at h
  split at h
  ·split at h
   ·have := tile_le h; omega
   ·cases h
  ·cases h
theorem Z4l {e : Nat} : ∀ {l : List (DataW H)} {d : DataW H}, (DataW.weightsAll P e l).all (· ≤ reachBytes) = true → d ∈ l → (d.weights P e).all (· ≤ reachBytes) = true
 | y :: r, d, h, hd => by
  unfold DataW.weightsAll at h
  rw [List.all_append, Bool.and_eq_true] at h
  rcases List.mem_cons.1 hd with rfl | hd
  ·exact h.1
  ·exact Z4l h.2 hd
theorem Zgn {α : Type} {Pr : Nat → α → Prop} : ∀ (n : Nat), (∀ i, i < n → ∃ c, Pr i c) → ∃ l : List α, l.length = n ∧ ∀ i c, l[i]? = some c → Pr i c
 | 0, _ => ⟨[], rfl, fun i c h => by simp at h⟩
 | n + 1, h => by
  obtain ⟨l, hl, hp⟩ := Zgn n (fun i hi => h i (by omega))
  obtain ⟨c, hc⟩ := h n (by omega)
  refine ⟨l ++ [c], by simp [hl], fun i x hx => ?_⟩
  rcases Nat.lt_or_ge i l.length with h1 | h1
  ·rw [List.getElem?_append_left h1] at hx; exact hp i x hx
  ·rw [List.getElem?_append_right h1] at hx
   have h2 : i - l.length = 0 := by
    have := (List.getElem?_eq_some_iff.1 hx).1; simp at this; exact this
   rw [h2] at hx
   simp at hx
   subst hx
   obtain rfl : i = n := by omega
   exact hc
abbrev Old (w : World) : Nat → Prop := fun b => b < w.heap.size
theorem Z7p {m n : Nat} {cs : List Value} (hT : Zf P T) (ih : ∀ (t : Nat) (cs : List Value) (x : DataW H × List MemPlace), supB T m t = true → DataW.trod enc P w 0 sp held n t cs = some x → (x.1.weights P t).all (· ≤ reachBytes) = true → ∃ xs, ShapeC T m t xs ∧ Zax (Old w) w xs cs) :
  ∀ (fl : List Field) (xs : List (DataW H × List MemPlace)) (off e : Nat), fl.length = xs.length → (∀ (i : Nat) (f : Field), fl[i]? = some f → DataW.trod enc P w 0 sp held n f.type ((cs.drop f.offset).take (P.cellsOf f.type)) = xs[i]?) → Zb9 T off (fl.map fun f => (f.offset, f.type)) = some e → e = cs.length →
   (fl.map fun f => (f.offset, f.type)).all (fun p => supB T m p.2) = true → (DataW.weightsEach P (fl.map (·.type)) (xs.map (·.1))).all (· ≤ reachBytes) = true →
   ∃ ys, Zel (ShapeC T m) (fl.map (·.type)) ys ∧ off + ys.length = e ∧ ∀ (j : Nat) (x : AV) (v : Value), ys[j]? = some x → cs[off + j]? = some v → RepF (Old w) w x v ∧ v.oneCell' = true
 | [], xs, off, e, hl, h, ht, he, hs, hw => ⟨[], rfl, by simp [Zb9] at ht; simpa using ht, fun j x v hx => by simp at hx⟩
 | f :: fl, [], off, e, hl, h, ht, he, hs, hw => by simp at hl
 | f :: fl, x :: xs, off, e, hl, h, ht, he, hs, hw => by
  simp only [List.map_cons, Zb9] at ht
  split at ht
  ·rename_i ho
   split at ht
   ·rename_i i hi
    simp only [List.map_cons, List.all_cons, Bool.and_eq_true] at hs
    simp only [List.map_cons, DataW.weightsEach, List.all_append, Bool.and_eq_true] at hw
    have hle := tile_le ht
    have h0 := h 0 f rfl
    rw [(hT _ _ hi).cellsOf.1, ho] at h0
    obtain ⟨a, ha, hal, hac⟩ := ih _ _ x hs.1 h0 hw.1
    obtain ⟨b, hb, hbl, hbc⟩ := Z7p hT ih fl xs _ e (by simpa using hl) (fun k g hg => h (k + 1) g (by simpa using hg)) ht he hs.2 hw.2
    have hal' : a.length = i.size := by rw [hal]; simp; omega
    refine ⟨a ++ b, ⟨a, b, rfl, ha, hb⟩, by simp; omega, fun j x v hx hv => ?_⟩
    rcases Nat.lt_or_ge j a.length with h1 | h1
    ·rw [List.getElem?_append_left h1] at hx
     refine hac j x v hx ?_
     rw [List.getElem?_take, if_pos (by omega), List.getElem?_drop]
     exact hv
    ·rw [List.getElem?_append_right h1] at hx
     refine hbc _ x v hx ?_
     rw [← hv]; congr 1; omega
   ·cases ht
  ·cases ht
theorem Z66 (hT : Zf P T) : ∀ (m : Nat) (t fuel : Nat) (cs : List Value) (x : DataW H × List MemPlace), supB T m t = true → DataW.trod enc P w 0 sp held fuel t cs = some x → (x.1.weights P t).all (· ≤ reachBytes) = true →
  ∃ xs, ShapeC T m t xs ∧ Zax (Old w) w xs cs
 | 0, _, _, _, _, hs, _, _ => by simp [supB] at hs
 | m + 1, t, fuel, cs, x, hs, h, hw => by
  have one : ∀ (y : Value), y.oneCell' = true → Zax (Old w) w [.v y] [y] := fun y hy => ⟨rfl, fun j x v hx hv => by
   have : j = 0 := by have := (List.getElem?_eq_some_iff.1 hx).1; simp at this; exact this
   subst this
   simp at hx hv
   subst hx hv
   exact ⟨.v _, hy⟩⟩
  unfold supB at hs
  unfold ShapeC
  split at hs
  ·rename_i k n b z ht
   obtain ⟨q, rfl, rfl, hq⟩ := DataW.trod_int (hT _ _ ht).kind h
   try rw [ht]
   exact ⟨_, ⟨q, rfl, hq⟩, one _ rfl⟩
  ·rename_i n b z ht
   obtain ⟨q, rfl, rfl⟩ := DataW.trod_bool (hT _ _ ht).kind h
   try rw [ht]
   exact ⟨_, ⟨q, rfl⟩, one _ rfl⟩
  ·rename_i n b z ht
   obtain ⟨q, rfl, rfl, hq⟩ := DataW.trod_string (hT _ _ ht).kind h
   try rw [ht]
   refine ⟨_, ⟨q, rfl, ?_⟩, one _ rfl⟩
   simp [DataW.weights] at hw
   exact hw
  ·rename_i e n b z ht
   split at hs
   ·rename_i i hi
    rw [Bool.and_eq_true, decide_eq_true_eq] at hs
    try rw [ht]
    try rw [hi]
    obtain ⟨hsz, hby⟩ := (hT _ _ hi).cellsOf
    rcases DataW.trod_slice (hT _ _ ht).kind h with ⟨rfl, rfl⟩ | ⟨a, len, cap, elems, rest, q, rfl, rfl, rfl, hb, hl, hm, hlen, hel, _, _⟩
    ·refine ⟨_, ⟨[], rfl, by simp, fun c hc => by cases hc⟩, rfl, fun j x v hx hv => ?_⟩
     have : j = 0 := by have := (List.getElem?_eq_some_iff.1 hx).1; simp at this; exact this
     subst this
     simp at hx hv
     subst hx hv
     exact ⟨.nil0 _ _ _, rfl⟩
    ·simp only [DataW.weights, (show P.underlying t = some (.slice e) from (hT _ _ ht).kind), List.all_cons, List.all_append, Bool.and_eq_true, decide_eq_true_eq] at hw
     obtain ⟨hw1, hw2, _⟩ := hw
     have each : ∀ k, k < len → ∃ c : List AV, ShapeC T m e c ∧ ∃ ds, w.cells? 0 (a.add (k * i.size)) i.size = some ds ∧ Zax (Old w) w c ds := fun k hk => by
      have h1 := hel k hk
      have hke : k < elems.length := by omega
      rw [hsz, List.getElem?_eq_getElem hke] at h1
      obtain ⟨ds, hds, htr⟩ := Option.bind_eq_some_iff.1 h1
      obtain ⟨c, hc, hcc⟩ := Z66 hT m e q ds _ hs.2 htr (Z4l hw2 (List.mem_map_of_mem (List.getElem_mem hke)))
      exact ⟨c, hc, ds, hds, hcc⟩
     obtain ⟨es, hes, hall⟩ := Zgn len each
     refine ⟨[.ro i.size es], ⟨es, rfl, ?_, fun c hc => ?_⟩, rfl, fun j x v hx hv => ?_⟩
     ·rw [hby] at hw1
      simp only [List.length_map] at hw1
      rw [hes]
      exact Nat.le_trans (Nat.mul_le_mul_right _ (by omega)) hw1
     ·obtain ⟨k, hk⟩ := List.getElem?_of_mem hc
      exact (hall k c hk).1
     ·have : j = 0 := by have := (List.getElem?_eq_some_iff.1 hx).1; simp at this; exact this
      subst this
      simp at hx hv
      subst hx hv
      refine ⟨?_, rfl⟩
      have key : ∀ k c, es[k]? = some c → c.length = i.size ∧ ∀ (j : Nat) (y : AV), c[j]? = some y → ∃ u, w.cell? (a.add (k * i.size + j)) = some u ∧ RepF (Old w) w y u ∧ u.oneCell' = true := fun k c hk => by
       obtain ⟨_, ds, hds, hcl, hcc⟩ := hall k c hk
       obtain ⟨_, hdl, hcell⟩ := World.cells?_some hds
       refine ⟨by omega, fun j y hy => ?_⟩
       have hj : j < c.length := (List.getElem?_eq_some_iff.1 hy).1
       have hj2 : j < ds.length := by omega
       obtain ⟨h1, h2⟩ := hcc j y ds[j] hy (List.getElem?_eq_getElem hj2)
       refine ⟨ds[j], ?_, h1, h2⟩
       rw [← Zav, hcell j (by omega), List.getElem?_eq_getElem hj2]
      rcases Nat.eq_zero_or_pos len with h0 | h0
      ·subst h0
       obtain rfl : es = [] := List.eq_nil_of_length_eq_zero hes
       exact .nil0 _ _ _
      ·refine .ro _ _ _ _ a (fun k j => (w.cell? (a.add (k * i.size + j))).getD undef) hes hl ?_ (fun c hc => ?_) (fun k c j y hk hy => ?_) (fun k c j y hk hy => ?_)
       ·obtain ⟨c, hc⟩ : ∃ c, es[0]? = some c := ⟨_, List.getElem?_eq_getElem (by omega)⟩
        obtain ⟨hcl, hcc⟩ := key 0 c hc
        obtain ⟨u, hu, _⟩ := hcc 0 _ (List.getElem?_eq_getElem (by omega))
        have := World.block_lt_of_cell? w _ hu
        rw [Z2r] at this
        exact this
       ·obtain ⟨k, hk⟩ := List.getElem?_of_mem hc
        exact (key k c hk).1
       ·obtain ⟨u, hu, h1, h2⟩ := (key k c hk).2 j y hy
        rw [hu]; exact ⟨rfl, h2⟩
       ·obtain ⟨u, hu, h1, h2⟩ := (key k c hk).2 j y hy
        rw [hu]; exact h1
   ·cases hs
  ·rename_i fs n b z ht
   rw [Bool.and_eq_true, decide_eq_true_eq] at hs
   try rw [ht]
   obtain ⟨ar, hu, hm⟩ := (hT _ _ ht).kind
   obtain ⟨xs, q, rfl, rfl, hcl, hxl, hx⟩ := DataW.trod_struct hu h
   subst hm
   have hcn : P.cellsOf t = n := (hT _ _ ht).cellsOf.1
   simp only [DataW.weights, hu] at hw
   obtain ⟨ys, h1, h2, h3⟩ := Z7p (cs := cs) hT (fun t cs x h1 h2 h3 => Z66 hT m t q cs x h1 h2 h3) ar.toList xs 0 n (by simp [hxl]) (fun k f hf => hx k f (by simpa using hf)) hs.1 (by rw [hcl, hcn]) hs.2 (by simpa using hw)
   refine ⟨ys, by simpa [List.map_map, Function.comp_def] using h1, by rw [hcl, hcn]; omega, fun j x v hx hv => h3 j x v hx (by simpa using hv)⟩
  ·cases hs
end
end Go.Proofs.YtcphmeggalaplaaDoor.Eng
set_option linter.unusedVariables false
set_option linter.unusedSimpArgs false
namespace Go.Proofs.YtcphmeggalaplaaDoor.Eng
open Go Go.RowKit Go.ChangeShapes Go.WideShapes
def Z9b (T : Tab) (m t : Nat) (x : AV) : Prop := match T t with
 | some ⟨.struct _, _, _, _⟩ => ∃ xs, x = .agg xs ∧ ShapeC T m t xs
 | _ => ShapeC T m t [x]
def Z9c (T : Tab) (m : Nat) : List Nat → List AV → Prop
 | [], xs => xs = []
 | t :: ts, xs => ∃ x r, xs = x :: r ∧ Z9b T m t x ∧ Z9c T m ts r
section
variable {H : Type} {enc : TypeId × Value → H} {P : Program} {T : Tab} {W : World}
theorem ShapeC.one {m t : Nat} {xs : List AV} (h : ShapeC T m t xs) (hns : ∀ fs n b z, T t ≠ some ⟨.struct fs, n, b, z⟩) : ∃ x, xs = [x] := by
 cases m with
 | zero => exact h.elim
 | succ m =>
  unfold ShapeC at h
  split at h
  ·obtain ⟨n, rfl, _⟩ := h; exact ⟨_, rfl⟩
  ·obtain ⟨n, rfl⟩ := h; exact ⟨_, rfl⟩
  ·obtain ⟨n, rfl, _⟩ := h; exact ⟨_, rfl⟩
  ·split at h
   ·obtain ⟨n, rfl, _⟩ := h; exact ⟨_, rfl⟩
   ·exact h.elim
  ·rename_i fs n b z ht
   exact absurd ht (hns fs n b z)
  ·exact h.elim
theorem Zip (hT : Zf P T) {m t : Nat} {v : Value} {d : DataW H} {p : List MemPlace} {sp : Nat → Bool} {held : Bool} {r : Reach} {b0 : Nat} (hs : supB T m t = true) (hval : Value.okWide P W r b0 t v) (h : DataW.Trod enc P W 0 sp held t v d p) (hw : (d.weights P t).all (· ≤ reachBytes) = true) :
  ∃ x, Z9b T m t x ∧ RepV (fun _ => none) (Old W) W x v := by
 obtain ⟨fuel, hf⟩ := h
 obtain ⟨xs, hx, hl, hc⟩ := Z66 hT m t fuel _ _ hs hf hw
 by_cases hst : ∃ fs n b z, T t = some ⟨.struct fs, n, b, z⟩
 ·obtain ⟨fs, n, b, z, ht⟩ := hst
  obtain ⟨ar, hu, _⟩ := (hT _ _ ht).kind
  simp only [Value.okWide, hu] at hval
  obtain ⟨cs, rfl, _, _⟩ := hval
  refine ⟨.agg xs, by unfold Z9b; rw [ht]; exact ⟨xs, rfl, hx⟩, ?_⟩
  have := RepV.agg (σ := fun _ => none) (F := Old W) (w := W) xs cs.toList (by simpa [Value.cells] using hl) (fun u hu => ?_) (fun j x u hx hu => .f _ _ (hc j x u hx (by simpa [Value.cells] using hu)).1)
  ·simpa using this
  ·obtain ⟨j, hj⟩ := List.getElem?_of_mem hu
   have hj1 : j < xs.length := by
    rw [hl]; exact (List.getElem?_eq_some_iff.1 (by simpa [Value.cells] using hj)).1
   exact (hc j _ u (List.getElem?_eq_getElem hj1) (by simpa [Value.cells] using hj)).2
 ·have hns : ∀ fs n b z, T t ≠ some ⟨.struct fs, n, b, z⟩ := fun fs n b z e => hst ⟨fs, n, b, z, e⟩
  obtain ⟨x, rfl⟩ := hx.one hns
  have hv : v.cells.toList = [v] := by
   cases m with
   | zero => exact hx.elim
   | succ m =>
    unfold supB at hs
    split at hs
    ·rename_i ht; obtain ⟨q, rfl⟩ := okWide_int (hT _ _ ht).kind hval; rfl
    ·rename_i ht; obtain ⟨q, rfl⟩ := okWide_bool (hT _ _ ht).kind hval; rfl
    ·rename_i ht; obtain ⟨q, rfl⟩ := okWide_string (hT _ _ ht).kind hval; rfl
    ·rename_i ht; obtain ⟨_, _, _, rfl⟩ := okWide_slice (hT _ _ ht).kind hval; rfl
    ·rename_i ht; exact absurd ht (hns _ _ _ _)
    ·cases hs
  refine ⟨x, ?_, .f _ _ (hc 0 x v rfl (by rw [hv]; rfl)).1⟩
  unfold Z9b
  split
  ·rename_i ht; exact absurd ht (hns _ _ _ _)
  ·exact hx
theorem Zbr (hT : Zf P T) {m : Nat} {r : Reach} {b0 : Nat} : ∀ (ts : List Nat) (vs : List Value) (ds : List (DataW H)) (p : List MemPlace), ts.all (supB T m) = true → DataW.TrodAll enc P W 0 (fun _ => true) true ts vs ds p →
  (∀ (j : Nat) t v, ts[j]? = some t → vs[j]? = some v → Value.okWide P W r b0 t v) → (DataW.weightsEach P ts ds).all (· ≤ reachBytes) = true →
  ∃ xs, Z9c T m ts xs ∧ xs.length = vs.length ∧ ∀ (j : Nat) (x : AV) (u : Value), xs[j]? = some x → vs[j]? = some u → RepV (fun _ => none) (Old W) W x u
 | [], vs, ds, p, hs, h, hval, hw => by
  cases vs with
  | nil => exact ⟨[], rfl, rfl, fun j x u hx => by simp at hx⟩
  | cons v vs => simp [DataW.TrodAll] at h
 | t :: ts, vs, ds, p, hs, h, hval, hw => by
  obtain ⟨v, vs', d, ds', p1, q, rfl, rfl, rfl, h1, h2⟩ := trodAll_cons h
  simp only [List.all_cons, Bool.and_eq_true] at hs
  simp only [DataW.weightsEach, List.all_append, Bool.and_eq_true] at hw
  obtain ⟨x, hx, hr⟩ := Zip hT hs.1 (hval 0 t v rfl rfl) h1 hw.1
  obtain ⟨xs, hxs, hl, hrs⟩ := Zbr hT ts vs' ds' q hs.2 h2 (fun j t' v' a b => hval (j + 1) t' v' (by simpa using a) (by simpa using b)) hw.2
  refine ⟨x :: xs, ⟨x, xs, rfl, hx, hxs⟩, by simp [hl], fun j y u hy hu => ?_⟩
  cases j with
  | zero => simp at hy hu; subst hy hu; exact hr
  | succ j => exact hrs j y u (by simpa using hy) (by simpa using hu)
theorem Z5t (hl : laidOutB P = true) {W' : World} (hb : Below W.heap.size W W') : ∀ (ts : List Nat) (vs : List Value) (ds : List (DataW H)) (p : List MemPlace), ts.all (fun t => P.readableRec t && decide (t < P.types.size)) = true → DataW.TrodAll enc P W 0 (fun _ => true) true ts vs ds p →
  DataW.TrodAll enc P W' 0 (fun b => decide (b < W.heap.size)) true ts vs ds p
 | [], vs, ds, p, hs, h => by
  cases vs <;> cases ds <;> simp [DataW.TrodAll] at h ⊢
  exact h
 | t :: ts, vs, ds, p, hs, h => by
  obtain ⟨v, vs', d, ds', p1, q, rfl, rfl, rfl, h1, h2⟩ := trodAll_cons h
  simp only [List.all_cons, Bool.and_eq_true, decide_eq_true_eq] at hs
  refine ⟨p1, q, Below.trod hl hs.1.1 hs.1.2 h1 hb (fun x hx => ?_), Z5t hl hb ts vs' ds' q (by simpa using hs.2) h2, rfl⟩
  obtain ⟨n, hn⟩ := h1
  exact DataW.trod_lt n _ _ _ hn x hx
theorem Zgw (hlay : Lays (Old W) W) (hT : Zf P T) (hl : laidOutB P = true) {m f : Nat} {ts : List Nat} (law : ∀ xs, Z9c T m ts xs → FPure P f xs (.v (.bool true))) (hs : ts.all (supB T m) = true) (hr : ts.all (fun t => P.readableRec t && decide (t < P.types.size)) = true)
  {vs : List Value} {ds : List (DataW H)} {p : List MemPlace} {r : Reach} {b0 : Nat} (h : DataW.TrodAll enc P W 0 (fun _ => true) true ts vs ds p) (hval : ∀ (j : Nat) t v, ts[j]? = some t → vs[j]? = some v → Value.okWide P W r b0 t v)
  (hw : (DataW.weightsEach P ts ds).all (· ≤ reachBytes) = true) : Calls P f vs.toArray W fun e W' => e = .returned (.bool true) ∧ Below W.heap.size W W' ∧ DataW.TrodAll enc P W' 0 (fun b => decide (b < W.heap.size)) true ts vs ds p := by
 obtain ⟨xs, hx, hlen, hrep⟩ := Zbr hT ts vs ds p hs h hval hw
 have hrep0 : HRep (fun _ => none) (Old W) W [] :=
  ⟨fun id ob ho => by simp at ho, fun _ _ => rfl, fun id id' g h1 => (by obtain ⟨_, h1, _⟩ := h1; cases h1), fun id g h1 => (by obtain ⟨_, h1, _⟩ := h1; cases h1), fun b hb => hb, hlay⟩
 refine (law xs hx (fun _ => none) (Old W) W vs hrep0 hlen hrep).mono ?_
 rintro e W' ⟨ret, h', σ', F', rv, ⟨rfl, rfl⟩, rfl, h1, h2, h3, h4, h5, h6, h7⟩
 have hb : Below W.heap.size W W' := ⟨h3.os, h3.tape, h3.output, h3.size, fun k hk => h3.block k hk (fun ⟨id, k, h, _⟩ => by cases h)⟩
 exact ⟨by rw [RepV.val h1], hb, Z5t hl hb ts vs ds p hr h⟩
end
end Go.Proofs.YtcphmeggalaplaaDoor.Eng
