/-
  An abstract-state layer over the kit's wp, first part: what is known of values, of the heap, of single operations. No condition; nothing here is trusted.
-/
import Derived.Below
import Derived.Lib.ItoaNum
import Derived.MapKept
import Derived.Deep.Draws
import Derived.Laws.Rows
import Derived.Maps.RangeRun
import Derived.Laws.CopyRow
import Derived.Maps.AppendAt
import Derived.WalkKit
import Derived.WideLaws
import Derived.Tactics
import Derived.Deep.LoopGhost
import Derived.RangeFuncIn
import Derived.TacticsIn
import Derived.IntWalk
import Derived.ChangeKeysEq
import Derived.Laws.Cells
import Derived.Laws.BytesString
import Derived.Laws.Tables
import Derived.Shelf.Abstract
set_option linter.unusedVariables false
namespace Go.Proofs.YtnehieeplbgaiacDoor.Eng
open Go
def LAID : List (Nat × Array Value) := []
end Go.Proofs.YtnehieeplbgaiacDoor.Eng
set_option linter.unusedVariables false
set_option linter.unusedSimpArgs false
namespace Go.Proofs.YtnehieeplbgaiacDoor.Eng
open Go Go.RowKit
def klt (a b : ByteArray) : Bool := decide (a.data.toList < b.data.toList)
theorem klt_irr (a : ByteArray) : klt a a = false := decide_eq_false (List.lt_irrefl _)
theorem Zbt {a b c : ByteArray} (h : klt a b = true) (k : klt b c = true) : klt a c = true := decide_eq_true (List.lt_trans (of_decide_eq_true h) (of_decide_eq_true k))
theorem klt_tri {a b : ByteArray} (h : klt a b = false) (hne : a ≠ b) : klt b a = true := by
 refine decide_eq_true (Classical.byContradiction fun k => hne ?_)
 apply ByteArray.ext
 apply Array.toList_inj.1
 exact List.le_antisymm (List.not_lt.1 k) (List.not_lt.1 (of_decide_eq_false h))
theorem Zh5 {a b : ByteArray} (h : klt a b = true) : a ≠ b := fun e => by subst e; rw [klt_irr] at h; cases h
def MUp {α : Type} (es : List (ByteArray × α)) : Prop := es.Pairwise fun p q => klt p.1 q.1 = true
def Z3k {α : Type} (k : ByteArray) : List (ByteArray × α) → Option α
 | [] => none
 | p :: r => match decide (k = p.1) with | true => some p.2 | false => Z3k k r
def Z3j {α : Type} (k : ByteArray) (v : α) : List (ByteArray × α) → List (ByteArray × α)
 | [] => [(k, v)]
 | p :: r => match decide (k = p.1), klt k p.1 with
  | true, _ => (k, v) :: r
  | false, true => (k, v) :: p :: r
  | false, false => p :: Z3j k v r
def Z7e {α : Type} (k : ByteArray) (v : α) : List (ByteArray × α) → List (ByteArray × α)
 | [] => [(k, v)]
 | p :: r => match decide (k = p.1) with | true => (k, v) :: r | false => p :: Z7e k v r
def Z4v {α : Type} (k : ByteArray) (p : ByteArray × α) : Bool := !decide (k = p.1)
section
variable {α : Type} {k : ByteArray} {v : α}
theorem MUp.nodup {es : List (ByteArray × α)} (h : MUp es) : (es.map (·.1)).Nodup := by
 induction es with
 | nil => exact List.nodup_nil
 | cons p r ih =>
  have h' := List.pairwise_cons.1 h
  rw [List.map_cons, List.nodup_cons]
  refine ⟨fun hm => ?_, ih h'.2⟩
  obtain ⟨q, hq, e⟩ := List.mem_map.1 hm
  exact Zh5 (h'.1 q hq) e.symm
theorem Z50 {es : List (ByteArray × α)} (h : ∀ p ∈ es, k ≠ p.1) : es.filter (Z4v k) = es :=
 List.filter_eq_self.2 fun p hp => by simp [Z4v, h p hp]
theorem msetA_perm : ∀ {es : List (ByteArray × α)}, MUp es → (Z3j k v es).Perm ((k, v) :: es.filter (Z4v k))
 | [], _ => .refl _
 | p :: r, h => by
  have h' := List.pairwise_cons.1 h
  unfold Z3j
  cases hd : decide (k = p.1) with
  | true =>
   have hk := of_decide_eq_true hd
   have e : (p :: r).filter (Z4v k) = r := by
    rw [List.filter_cons_of_neg (by simp [Z4v, hk])]
    exact Z50 fun q hq => hk ▸ Zh5 (h'.1 q hq)
   rw [e]
  | false =>
   have hk := of_decide_eq_false hd
   have e : (p :: r).filter (Z4v k) = p :: r.filter (Z4v k) := List.filter_cons_of_pos (by simp [Z4v, hk])
   rw [e]
   cases hl : klt k p.1 with
   | true =>
    have e2 : r.filter (Z4v k) = r := Z50 fun q hq => Zh5 (Zbt hl (h'.1 q hq))
    rw [e2]
   | false => exact (List.Perm.cons p (msetA_perm h'.2)).trans (List.Perm.swap _ _ _)
theorem msetX_perm : ∀ {es : List (ByteArray × α)}, (es.map (·.1)).Nodup → (Z7e k v es).Perm ((k, v) :: es.filter (Z4v k))
 | [], _ => .refl _
 | p :: r, h => by
  rw [List.map_cons, List.nodup_cons] at h
  unfold Z7e
  cases hd : decide (k = p.1) with
  | true =>
   have hk := of_decide_eq_true hd
   have e : (p :: r).filter (Z4v k) = r := by
    rw [List.filter_cons_of_neg (by simp [Z4v, hk])]
    exact Z50 fun q hq e => h.1 (hk ▸ e ▸ List.mem_map_of_mem hq)
   rw [e]
  | false =>
   have hk := of_decide_eq_false hd
   have e : (p :: r).filter (Z4v k) = p :: r.filter (Z4v k) := List.filter_cons_of_pos (by simp [Z4v, hk])
   rw [e]
   exact (List.Perm.cons p (msetX_perm h.2)).trans (List.Perm.swap _ _ _)
theorem msetA_mem : ∀ {es : List (ByteArray × α)} {q : ByteArray × α}, q ∈ Z3j k v es → q = (k, v) ∨ q ∈ es
 | [], q, h => by simp [Z3j] at h; exact .inl h
 | p :: r, q, h => by
  unfold Z3j at h
  split at h
  ·rcases List.mem_cons.1 h with h | h
   ·exact .inl h
   ·exact .inr (List.mem_cons_of_mem _ h)
  ·rcases List.mem_cons.1 h with h | h
   ·exact .inl h
   ·exact .inr h
  ·rcases List.mem_cons.1 h with h | h
   ·exact .inr (h ▸ List.mem_cons_self ..)
   ·rcases msetA_mem h with h | h
    ·exact .inl h
    ·exact .inr (List.mem_cons_of_mem _ h)
theorem msetA_up : ∀ {es : List (ByteArray × α)}, MUp es → MUp (Z3j k v es)
 | [], _ => by simp [MUp, Z3j]
 | p :: r, h => by
  have h' := List.pairwise_cons.1 h
  unfold Z3j
  split
  ·rename_i hd
   exact List.pairwise_cons.2 ⟨fun q hq => (of_decide_eq_true hd) ▸ h'.1 q hq, h'.2⟩
  ·rename_i hd hl
   exact List.pairwise_cons.2 ⟨fun q hq => by
    rcases List.mem_cons.1 hq with rfl | hq
    ·exact hl
    ·exact Zbt hl (h'.1 q hq), h⟩
  ·rename_i hd hl
   refine List.pairwise_cons.2 ⟨fun q hq => ?_, msetA_up h'.2⟩
   rcases msetA_mem hq with rfl | hq
   ·exact klt_tri hl (of_decide_eq_false hd)
   ·exact h'.1 q hq
theorem mgetA_mem : ∀ {es : List (ByteArray × α)}, (es.map (·.1)).Nodup → ∀ x, Z3k k es = some x ↔ (k, x) ∈ es
 | [], _, x => by simp [Z3k]
 | p :: r, h, x => by
  rw [List.map_cons, List.nodup_cons] at h
  unfold Z3k
  cases hd : decide (k = p.1) with
  | true =>
   have hk := of_decide_eq_true hd
   constructor
   ·intro e
    cases e
    rw [hk]; exact List.mem_cons_self ..
   ·intro hm
    rcases List.mem_cons.1 hm with e | hm
    ·rw [← e]
    ·exact absurd (List.mem_map_of_mem hm) (fun hm' => h.1 (hk ▸ hm'))
  | false =>
   have hk := of_decide_eq_false hd
   refine (mgetA_mem h.2 x).trans ⟨List.mem_cons_of_mem _, fun hm => ?_⟩
   rcases List.mem_cons.1 hm with e | hm
   ·exact absurd (congrArg Prod.fst e) hk
   ·exact hm
theorem Z8l {es es' : List (ByteArray × α)} (h : es.Perm es') (hn : (es'.map (·.1)).Nodup) : Z3k k es = Z3k k es' := by
 have hn' : (es.map (·.1)).Nodup := (h.map _).nodup_iff.2 hn
 apply Option.ext
 intro x
 exact (mgetA_mem hn' x).trans ((h.mem_iff).trans (mgetA_mem hn x).symm)
end
def Z9i (p : ByteArray × Value) : Value × Value := (.string p.1, p.2)
def Z9j (e : MapEntry) : Value × Value := (e.key, e.val)
def MapIs (arr : Array MapEntry) (clock : Nat) (es : List (ByteArray × Value)) : Prop :=
 (∃ es0 : List (ByteArray × Value), arr.toList.map Z9j = es0.map Z9i ∧ es0.Perm es) ∧ MUp es ∧ (arr.toList.map (·.born)).Nodup ∧ ∀ e ∈ arr.toList, e.born < clock
theorem MapIs.nil : MapIs #[] 0 [] := ⟨⟨[], rfl, .refl _⟩, List.Pairwise.nil, List.nodup_nil, fun e h => by cases h⟩
theorem Zbo {k : ByteArray} {v : Value} {es0 es : List (ByteArray × Value)} (h : es0.Perm es) (hu : MUp es) : (Z7e k v es0).Perm (Z3j k v es) :=
 (msetX_perm ((h.map _).nodup_iff.2 hu.nodup)).trans ((List.Perm.cons _ (h.filter _)).trans (msetA_perm hu).symm)
theorem MapIs.push {arr : Array MapEntry} {clock : Nat} {es : List (ByteArray × Value)} (h : MapIs arr clock es) {b : ByteArray} {u : Value} {es0 : List (ByteArray × Value)} (h0 : arr.toList.map Z9j = es0.map Z9i) (hp : es0.Perm es) (hx : Z7e b u es0 = es0 ++ [(b, u)]) : MapIs (arr.push { key := .string b, val := u, born := clock }) (clock + 1) (Z3j b u es) := by
 obtain ⟨_, h2, h3, h4⟩ := h
 refine ⟨⟨Z7e b u es0, by rw [hx]; simp [h0, Z9j, Z9i], Zbo hp h2⟩, msetA_up h2, ?_, fun e he => ?_⟩
 ·rw [Array.toList_push, List.map_append, List.nodup_append]
  refine ⟨h3, by simp, fun x hx y hy e => ?_⟩
  obtain ⟨q, hq, rfl⟩ := List.mem_map.1 hx
  simp at hy
  have := h4 q hq
  omega
 ·rw [Array.toList_push] at he
  rcases List.mem_append.1 he with he | he
  ·have := h4 e he; omega
  ·simp at he; subst he; exact Nat.lt_succ_self _
theorem MapIs.modify {arr : Array MapEntry} {clock : Nat} {es : List (ByteArray × Value)} (h : MapIs arr clock es) {b : ByteArray} {u : Value} {es0 : List (ByteArray × Value)} (hp : es0.Perm es) {j : Nat} (hx : (arr.toList.modify j fun e => { e with key := .string b, val := u }).map Z9j = (Z7e b u es0).map Z9i) : MapIs (arr.modify j fun e => { e with key := .string b, val := u }) clock (Z3j b u es) := by
 obtain ⟨_, h2, h3, h4⟩ := h
 have hb : ∀ (l : List MapEntry) (j : Nat), (l.modify j fun e => { e with key := .string b, val := u }).map (·.born) = l.map (·.born) := by
  intro l
  induction l with
  | nil => intro j; simp
  | cons a r ih =>
   intro j
   cases j with
   | zero => simp
   | succ j => simp [ih]
 refine ⟨⟨Z7e b u es0, by rw [Array.toList_modify]; exact hx, Zbo hp h2⟩, msetA_up h2, by rw [Array.toList_modify, hb]; exact h3, fun e he => ?_⟩
 rw [Array.toList_modify] at he
 have hm : e.born ∈ ((arr.toList.modify j fun e => { e with key := .string b, val := u }).map (·.born)) := List.mem_map_of_mem he
 rw [hb] at hm
 obtain ⟨q, hq, hqe⟩ := List.mem_map.1 hm
 rw [← hqe]; exact h4 q hq
end Go.Proofs.YtnehieeplbgaiacDoor.Eng
set_option linter.unusedVariables false
namespace Go.Proofs.YtnehieeplbgaiacDoor.Eng
open Go
inductive AV where
 | any
 | v (x : Value)
 | ro (sz : Nat) (es : List (List AV))
 | rp (cs : List AV)
 | own (id sz off len : Nat)
 | ptr (id i sz j : Nat)
 | agg (cs : List AV)
 | tup (cs : List AV)
 | fn (f : Nat) (cs : List AV)
 | nm (id : Nat) (k : List Nat)
 | mp (es : List (ByteArray × Value))
 | mq (es : List (ByteArray × Value))
 deriving Inhabited
inductive Blk where
 | nil
 | at_ (g b c n : Nat)
 | ext (gs : Nat → Prop) (V : List Nat → Value)
def Blk.has : Blk → Nat → Prop
 | .nil, _ => False
 | .at_ g' _ _ _, g => g = g'
 | .ext gs _, g => gs g
def hasB (σ : Nat → Option Blk) (id g : Nat) : Prop := ∃ k, σ id = some k ∧ k.has g
theorem hasB.at {σ : Nat → Option Blk} {id g b c n : Nat} (h : σ id = some (.at_ g b c n)) : hasB σ id g := ⟨_, h, rfl⟩
inductive RepF (F : Nat → Prop) (w : World) : AV → Value → Prop
 | any (y : Value) : RepF F w .any y
 | v (x : Value) : RepF F w (.v x) x
 | nil0 (sz c : Nat) (a : Option Addr) : RepF F w (.ro sz []) (.slice a 0 c)
 | ro (sz n c : Nat) (es : List (List AV)) (ad : Addr) (V : Nat → Nat → Value) (hn : es.length = n) (hc : n ≤ c) (hF : F ad.block) (hl : ∀ cs ∈ es, cs.length = sz)
   (hcell : ∀ i cs j x, es[i]? = some cs → cs[j]? = some x → w.cell? (ad.add (i * sz + j)) = some (V i j) ∧ (V i j).oneCell' = true)
   (hr : ∀ i cs j x, es[i]? = some cs → cs[j]? = some x → RepF F w x (V i j)) : RepF F w (.ro sz es) (.slice (some ad) n c)
 | fn (f : Nat) (cs : List AV) (vs : List Value) (hl : cs.length = vs.length) (h : ∀ (j : Nat) (x : AV) (u : Value), cs[j]? = some x → vs[j]? = some u → RepF F w x u) : RepF F w (.fn f cs) (.func (.func f) #[] vs.toArray)
 | mp0 : RepF F w (.mp []) (.map none)
 | mp (es : List (ByteArray × Value)) (g : Nat) (arr : Array MapEntry) (clock : Nat) (hF : F g) (hg : w.heap[g]? = some (.map arr clock)) (hm : MapIs arr clock es) : RepF F w (.mp es) (.map (some g))
 | mq (es : List (ByteArray × Value)) (g : Nat) (v : Value) (hF : F g) (hc : w.cell? ⟨g, 0, none⟩ = some v) (h : RepF F w (.mp es) v) : RepF F w (.mq es) (.pointer (some ⟨g, 0, none⟩))
 | rp (cs : List AV) (ad : Addr) (V : Nat → Value) (hF : F ad.block)
   (hcell : ∀ j x, cs[j]? = some x → w.cell? (ad.add j) = some (V j) ∧ (V j).oneCell' = true)
   (hr : ∀ j x, cs[j]? = some x → RepF F w x (V j)) : RepF F w (.rp cs) (.pointer (some ad))
theorem Z2j (ad : Addr) (n : Nat) : (ad.add n).block = ad.block := by unfold Addr.add; split <;> rfl
theorem RepF.mono {F F' : Nat → Prop} {w w' : World} {x : AV} {y : Value} (h : RepF F w x y) (hF : ∀ b, F b → F' b) (hw : ∀ b, F b → w'.heap[b]? = w.heap[b]?) : RepF F' w' x y := by
 induction h with
 | any y => exact .any y
 | v x => exact .v x
 | nil0 sz c a => exact .nil0 sz c a
 | fn f cs vs hl h ih => exact .fn f cs vs hl ih
 | mp0 => exact .mp0
 | mp es g arr clock hF1 hg hm => exact .mp es g arr clock (hF _ hF1) ((hw _ hF1).trans hg) hm
 | mq es g v hF1 hc h ih => exact .mq es g v (hF _ hF1) ((World.cell?_of_block (hw _ hF1)).trans hc) ih
 | ro sz n c es ad V hn hc hF1 hl hcell hr ih =>
  refine .ro sz n c es ad V hn hc (hF _ hF1) hl (fun i cs j x h1 h2 => ?_) ih
  obtain ⟨h3, h4⟩ := hcell i cs j x h1 h2
  exact ⟨(World.cell?_of_block (by rw [Z2j]; exact hw _ hF1)).trans h3, h4⟩
 | rp cs ad V hF1 hcell hr ih =>
  refine .rp cs ad V (hF _ hF1) (fun j x h1 => ?_) ih
  obtain ⟨h3, h4⟩ := hcell j x h1
  exact ⟨(World.cell?_of_block (by rw [Z2j]; exact hw _ hF1)).trans h3, h4⟩
inductive RepV (σ : Nat → Option Blk) (F : Nat → Prop) (w : World) : AV → Value → Prop
 | f (x : AV) (y : Value) (h : RepF F w x y) : RepV σ F w x y
 | own0 (id sz : Nat) (h : σ id = some .nil) : RepV σ F w (.own id sz 0 0) (.slice none 0 0)
 | own (id sz off len g b c n : Nat) (h : σ id = some (.at_ g b c n)) (hn : off + len ≤ n) (hc : n ≤ c) : RepV σ F w (.own id sz off len) (.slice (some ⟨g, (b + off) * sz, none⟩) len (c - off))
 | ownz (id sz off g b c n : Nat) (a : Option Addr) (h : σ id = some (.at_ g b c n)) (hn : off = n) (hc : n = c) : RepV σ F w (.own id sz off 0) (.slice a 0 0)
 | ptr (id i sz j g b c n : Nat) (h : σ id = some (.at_ g b c n)) : RepV σ F w (.ptr id i sz j) (.pointer (some ⟨g, (b + i) * sz + j, none⟩))
 | nm (id : Nat) (k : List Nat) (gs : Nat → Prop) (V : List Nat → Value) (h : σ id = some (.ext gs V)) (h1 : (V k).oneCell' = true) : RepV σ F w (.nm id k) (V k)
 | agg (cs : List AV) (vs : List Value) (hl : cs.length = vs.length) (h1 : ∀ u ∈ vs, u.oneCell' = true) (h : ∀ (j : Nat) (x : AV) (u : Value), cs[j]? = some x → vs[j]? = some u → RepV σ F w x u) : RepV σ F w (.agg cs) (.agg vs.toArray)
 | tup (cs : List AV) (vs : List Value) (hl : cs.length = vs.length) (h : ∀ (j : Nat) (x : AV) (u : Value), cs[j]? = some x → vs[j]? = some u → RepV σ F w x u) : RepV σ F w (.tup cs) (.tuple vs.toArray)
 | fn (f : Nat) (cs : List AV) (vs : List Value) (hl : cs.length = vs.length) (h : ∀ (j : Nat) (x : AV) (u : Value), cs[j]? = some x → vs[j]? = some u → RepV σ F w x u) : RepV σ F w (.fn f cs) (.func (.func f) #[] vs.toArray)
section
variable {σ σ' : Nat → Option Blk} {F F' : Nat → Prop} {w w' : World} {x : AV} {y : Value}
theorem RepV.mono (h : RepV σ F w x y) (hF : ∀ b, F b → F' b) (hw : ∀ b, F b → w'.heap[b]? = w.heap[b]?) : RepV σ F' w' x y := by
 induction h with
 | f x y h => exact .f _ _ (h.mono hF hw)
 | own0 id sz h => exact .own0 id sz h
 | own id sz off len g b c n h hn hc => exact .own id sz off len g b c n h hn hc
 | ownz id sz off g b c n a h hn hc => exact .ownz id sz off g b c n a h hn hc
 | ptr id i sz j g b c n h => exact .ptr id i sz j g b c n h
 | nm id k gs V h h1 => exact .nm id k gs V h h1
 | agg cs vs hl h1 h ih => exact .agg cs vs hl h1 ih
 | tup cs vs hl h ih => exact .tup cs vs hl ih
 | fn f cs vs hl h ih => exact .fn f cs vs hl ih
theorem RepV.grow (h : RepV σ F w x y) (hs : ∀ id k, σ id = some k → σ' id = some k) : RepV σ' F w x y := by
 induction h with
 | f x y h => exact .f _ _ h
 | own0 id sz h => exact .own0 id sz (hs _ _ h)
 | own id sz off len g b c n h hn hc => exact .own id sz off len g b c n (hs _ _ h) hn hc
 | ownz id sz off g b c n a h hn hc => exact .ownz id sz off g b c n a (hs _ _ h) hn hc
 | ptr id i sz j g b c n h => exact .ptr id i sz j g b c n (hs _ _ h)
 | nm id k gs V h h1 => exact .nm id k gs V (hs _ _ h) h1
 | agg cs vs hl h1 h ih => exact .agg cs vs hl h1 ih
 | tup cs vs hl h ih => exact .tup cs vs hl ih
 | fn f cs vs hl h ih => exact .fn f cs vs hl ih
end
def AV.one : AV → Bool
 | .v x => x.oneCell'
 | .ro .. | .rp _ | .own .. | .ptr .. | .fn .. | .nm .. | .mp _ | .mq _ => true
 | _ => false
theorem RepF.one {F : Nat → Prop} {w : World} {x : AV} {y : Value} (h : RepF F w x y) (h1 : x.one = true) : y.oneCell' = true := by
 cases h with
 | any => simp [AV.one] at h1
 | v => exact h1
 | nil0 => rfl
 | fn => rfl
 | mp0 => rfl
 | mp => rfl
 | mq => rfl
 | ro => rfl
 | rp => rfl
theorem RepV.one {σ : Nat → Option Blk} {F : Nat → Prop} {w : World} {x : AV} {y : Value} (h : RepV σ F w x y) (h1 : x.one = true) : y.oneCell' = true := by
 cases h with
 | f _ _ h => exact h.one h1
 | agg => simp [AV.one] at h1
 | tup => simp [AV.one] at h1
 | nm _ _ _ _ _ h => exact h
 | _ => rfl
inductive AObj where
 | box (e : TypeId) (cs : List AV)
 | row (e : TypeId) (sz : Nat) (es : List (List AV))
 | mapo (es : List (ByteArray × Value))
 | iter (last : Option (ByteArray × Value)) (es : List (ByteArray × Value))
 | lin (e ei sz isz : Nat) (part hole : Option Nat) (es : List (List AV))
 | dead
 deriving Inhabited
def IterIs (F : Nat → Prop) (w : World) (om : Option Nat) (since : Nat) (seen : Array Nat) (c0 : Nat) (last : Option (ByteArray × Value)) (es : List (ByteArray × Value)) : Prop :=
 (om = none ∧ es = [] ∧ last = none) ∨ ∃ (m : Nat) (arr : Array MapEntry) (clock : Nat), om = some m ∧ F m ∧ w.heap[m]? = some (.map arr clock) ∧ (arr.toList.map (·.born)).Nodup ∧ (∀ e ∈ arr.toList, e.born < clock) ∧ since = clock ∧ c0 = clock ∧
  (∀ l, last = some l → ∃ e ∈ arr.toList, ∃ seen' : Array Nat, seen = seen'.push e.born ∧ Z9j e = Z9i l) ∧ ∃ es0 : List (ByteArray × Value), (leftOf arr seen).toList.map Z9j = es0.map Z9i ∧ es0.Perm es
theorem IterIs.mono {F F' : Nat → Prop} {w w' : World} {om : Option Nat} {since : Nat} {seen : Array Nat} {c0 : Nat} {last : Option (ByteArray × Value)} {es : List (ByteArray × Value)} (h : IterIs F w om since seen c0 last es) (hM : ∀ b, F b → F' b ∧ w'.heap[b]? = w.heap[b]?) : IterIs F' w' om since seen c0 last es := by
 rcases h with h | ⟨m, arr, clock, h1, h2, h3, h4⟩
 ·exact .inl h
 ·exact .inr ⟨m, arr, clock, h1, (hM m h2).1, (hM m h2).2.trans h3, h4⟩
theorem IterIs.perm {F : Nat → Prop} {w : World} {om : Option Nat} {since : Nat} {seen : Array Nat} {c0 : Nat} {last : Option (ByteArray × Value)} {es es' : List (ByteArray × Value)} (h : IterIs F w om since seen c0 last es) (hp : es.Perm es') : IterIs F w om since seen c0 last es' := by
 rcases h with ⟨h1, h2, h3⟩ | ⟨m, arr, clock, h1, h2, h3, h4, h5, h6, h7, h10, es0, h8, h9⟩
 ·subst h2; exact .inl ⟨h1, List.perm_nil.1 hp.symm, h3⟩
 ·exact .inr ⟨m, arr, clock, h1, h2, h3, h4, h5, h6, h7, h10, es0, h8, h9.trans hp⟩
def RowRep (q : Blk) (F : Nat → Prop) (w : World) (e sz : Nat) (es : List (List AV)) : Prop :=
 (q = .nil ∧ es = []) ∨ ∃ (g b c : Nat) (cur : Array Value), q = .at_ g b c es.length ∧ es.length ≤ c ∧ b + c ≤ maxLen ∧ w.heap[g]? = some (.cells cur e (0, 0)) ∧
   cur.size = (b + c) * sz ∧ (∀ cs ∈ es, cs.length = sz) ∧
   ∀ (i : Nat) (cs : List AV) (j : Nat) (x : AV), es[i]? = some cs → cs[j]? = some x → ∃ u, cur[(b + i) * sz + j]? = some u ∧ u.oneCell' = true ∧ RepF F w x u
def HdrRep (q : Blk) (F : Nat → Prop) (w : World) (sz len : Nat) (v : Value) : Prop := RepV (fun _ => some q) F w (.own 0 sz 0 len) v
def PtrRep (q : Blk) (sz : Nat) (p : Nat → Nat → Value) : Prop := ∀ g b c n, q = .at_ g b c n → ∀ i j, p i j = .pointer (some ⟨g, (b + i) * sz + j, none⟩)
def Z1u (isz : Nat) (v : Value) (l h : Nat) : Value := match v with
 | .slice A n cap => .slice (if cap = min l (min h n) then A else A.map (·.add (min l (min h n) * isz))) (min h n - min l (min h n)) (cap - min l (min h n))
 | v => v
def Z6d (F : Nat → Prop) (w : World) (ei sz isz c : Nat) (hole : Option Nat) (B : Nat → Blk) (V : List Nat → Value) (i j : Nat) (x : AV) (u : Value) : Prop :=
 (j + 1 = sz ∧ hole = some i) ∨
 (j + 1 = sz ∧ i < c ∧ hole ≠ some i ∧ u = V [1, i] ∧ ∃ row, x = .ro isz row ∧ RowRep (B i) F w ei isz row ∧ HdrRep (B i) F w isz row.length u) ∨
 ((j + 1 = sz → c ≤ i ∧ hole ≠ some i) ∧ RepF F w x u)
structure LinRep (F : Nat → Prop) (w : World) (e ei sz isz c : Nat) (hole : Option Nat) (es : List (List AV)) (R : Blk) (B : Nat → Blk) (V : List Nat → Value) : Prop where
 root : (R = .nil ∧ es = []) ∨ ∃ (g b cap : Nat) (cur : Array Value), R = .at_ g b cap es.length ∧ es.length ≤ cap ∧ b + cap ≤ maxLen ∧ w.heap[g]? = some (.cells cur e (0, 0)) ∧ cur.size = (b + cap) * sz ∧ (∀ cs ∈ es, cs.length = sz) ∧
  ∀ (i : Nat) (cs : List AV) (j : Nat) (x : AV), es[i]? = some cs → cs[j]? = some x → ∃ u, cur[(b + i) * sz + j]? = some u ∧ u.oneCell' = true ∧ Z6d F w ei sz isz c hole B V i j x u
 rhdr : HdrRep R F w sz es.length (V [0])
 rptr : ∀ g b cap n, R = .at_ g b cap n → ∀ k j, V [2, k, j] = .pointer (some ⟨g, (b + k) * sz + j, none⟩)
 sub : ∀ k l h, V [3, k, l, h] = Z1u isz (V [1, k]) l h
 hol : ∀ k, hole = some k → k < es.length ∧ k ≤ c
 hce : c ≤ es.length
 hsz : 0 < sz
 out : ∀ k, c ≤ k ∨ hole = some k → B k = .nil ∧ V [1, k] = .slice none 0 0
 apart : ∀ k g, R.has g → ¬ (B k).has g
 inj : ∀ k k' g, (B k).has g → (B k').has g → k = k'
def Z1g (R : Blk) (B : Nat → Blk) (g : Nat) : Prop := R.has g ∨ ∃ k, (B k).has g
def RepO (σ : Nat → Option Blk) (F : Nat → Prop) (w : World) (id : Nat) : AObj → Prop
 | .box e cs => ∃ (g : Nat) (vs : List Value), σ id = some (.at_ g 0 1 1) ∧ w.heap[g]? = some (.cells vs.toArray e (0, 0)) ∧ cs.length = vs.length ∧
   (∀ u ∈ vs, u.oneCell' = true) ∧ ∀ (j : Nat) (x : AV) (u : Value), cs[j]? = some x → vs[j]? = some u → RepV σ F w x u
 | .row e sz es => (σ id = some .nil ∧ es = []) ∨ ∃ (g b c : Nat) (cur : Array Value), σ id = some (.at_ g b c es.length) ∧ es.length ≤ c ∧ b + c ≤ maxLen ∧ w.heap[g]? = some (.cells cur e (0, 0)) ∧
   cur.size = (b + c) * sz ∧ (∀ cs ∈ es, cs.length = sz) ∧
   ∀ (i : Nat) (cs : List AV) (j : Nat) (x : AV), es[i]? = some cs → cs[j]? = some x → ∃ u, cur[(b + i) * sz + j]? = some u ∧ u.oneCell' = true ∧ RepF F w x u
 | .mapo es => ∃ (g : Nat) (arr : Array MapEntry) (clock : Nat), σ id = some (.ext (fun h => h = g) (fun _ => .map (some g))) ∧ w.heap[g]? = some (.map arr clock) ∧ MapIs arr clock es
 | .iter last es => ∃ (g : Nat) (om : Option Nat) (since : Nat) (seen : Array Nat) (c0 : Nat), σ id = some (.ext (fun h => h = g) (fun _ => .pointer (some ⟨g, 0, none⟩))) ∧ w.heap[g]? = some (.mapIter om since seen c0) ∧ IterIs F w om since seen c0 last es
 | .lin e ei sz isz part hole es => ∃ (R : Blk) (B : Nat → Blk) (V : List Nat → Value), σ id = some (.ext (Z1g R B) V) ∧ LinRep F w e ei sz isz (part.getD es.length) hole es R B V
 | .dead => σ id = none
def Lays (F : Nat → Prop) (w : World) : Prop := ∀ p ∈ LAID, F p.1 ∧ ∃ e q, w.heap[p.1]? = some (.cells p.2 e q)
theorem Lays.mono {F F' : Nat → Prop} {w w' : World} (h : Lays F w) (hF : ∀ b, F b → F' b) (hw : ∀ b, F b → w'.heap[b]? = w.heap[b]?) : Lays F' w' := fun p hp => by
 obtain ⟨h1, e, q, h2⟩ := h p hp
 exact ⟨hF _ h1, e, q, (hw _ h1).trans h2⟩
structure HRep (σ : Nat → Option Blk) (F : Nat → Prop) (w : World) (h : List AObj) : Prop where
 obj : ∀ id o, h[id]? = some o → RepO σ F w id o
 out : ∀ id, h.length ≤ id → σ id = none
 inj : ∀ id id' g, hasB σ id g → hasB σ id' g → id = id'
 lt : ∀ id g, hasB σ id g → g < w.heap.size ∧ ¬ F g
 flt : ∀ b, F b → b < w.heap.size
 lay : Lays F w
end Go.Proofs.YtnehieeplbgaiacDoor.Eng
set_option linter.unusedVariables false
namespace Go.Proofs.YtnehieeplbgaiacDoor.Eng
open Go
structure Ctx where
 n : Nat
 w0 : World
 M : Nat → Prop
 F0 : Nat → Prop
 m : Nat
 σ0 : Nat → Option Blk
 ro : Option Nat
 rf : Bool
structure St where
 env : List (Nat × AV)
 heap : List AObj
def envGet : List (Nat × AV) → Nat → AV
 | [], _ => .any
 | (j, x) :: r, i => if i = j then x else envGet r i
def St.put (s : St) (d : Option Nat) (x : AV) : St :=
 match d with
 | some d => { s with env := (d, x) :: s.env }
 | none => s
structure Keep (M : Nat → Prop) (w w' : World) : Prop where
 os : w'.os = w.os
 tape : w'.tape = w.tape
 output : w'.output = w.output
 size : w.heap.size ≤ w'.heap.size
 block : ∀ b, b < w.heap.size → ¬ M b → w'.heap[b]? = w.heap[b]?
theorem Keep.refl (M : Nat → Prop) (w : World) : Keep M w w := ⟨rfl, rfl, rfl, Nat.le_refl _, fun _ _ _ => rfl⟩
theorem Keep.trans {M M' M'' : Nat → Prop} {a b c : World} (h : Keep M a b) (k : Keep M' b c) (h1 : ∀ g, g < a.heap.size → ¬ M'' g → ¬ M g ∧ ¬ M' g) : Keep M'' a c :=
 ⟨k.os.trans h.os, k.tape.trans h.tape, k.output.trans h.output, Nat.le_trans h.size k.size, fun g hg hm => (k.block g (Nat.lt_of_lt_of_le hg h.size) (h1 g hg hm).2).trans (h.block g hg (h1 g hg hm).1)⟩
theorem Keep.drew {M : Nat → Prop} {a w : World} (h : Keep M a w) : Keep M a w.drew := ⟨h.os, h.tape, h.output, h.size, h.block⟩
def Marks (n0 : Nat) (F : Nat → Prop) (w : World) (ds : List Deferred) : Prop := ∀ d ∈ ds, ∃ D, d = { target := .collected D, args := #[] } ∧ w.heap[D]? = some (.deferred (some [])) ∧ ¬ F D ∧ n0 ≤ D
theorem Marks.keep {n0 : Nat} {F F' : Nat → Prop} {w w' : World} {ds : List Deferred} (h : Marks n0 F w ds) (hw : ∀ D, w.heap[D]? = some (.deferred (some [])) → ¬ F D → w'.heap[D]? = w.heap[D]? ∧ ¬ F' D) : Marks n0 F' w' ds := fun d hd => by
 obtain ⟨D, h1, h2, h3, h6⟩ := h d hd
 obtain ⟨h4, h5⟩ := hw D h2 h3
 exact ⟨D, h1, h4.trans h2, h5, h6⟩
def MarksX (b : Bool) (n0 : Nat) (F : Nat → Prop) (w : World) (ds : List Deferred) : Prop := match b with
 | true => Marks n0 F w ds ∧ ds.Nodup
 | false => ds = []
theorem MarksX.keep {b : Bool} {n0 : Nat} {F F' : Nat → Prop} {w w' : World} {ds : List Deferred} (h : MarksX b n0 F w ds) (hw : ∀ D, w.heap[D]? = some (.deferred (some [])) → ¬ F D → w'.heap[D]? = w.heap[D]? ∧ ¬ F' D) : MarksX b n0 F' w' ds := by
 cases b with
 | true => exact ⟨Marks.keep h.1 hw, h.2⟩
 | false => exact h
theorem Marks.nil (n0 : Nat) (F : Nat → Prop) (w : World) : Marks n0 F w [] := fun d hd => (nomatch hd)
theorem MarksX.nil (b : Bool) (n0 : Nat) (F : Nat → Prop) (w : World) : MarksX b n0 F w [] := by
 cases b with
 | true => exact ⟨Marks.nil n0 F w, List.nodup_nil⟩
 | false => rfl
theorem Z1n {w : World} {D : Nat} {o : Obj} (h : w.heap[D]? = some o) : D < w.heap.size := (Array.getElem?_eq_some_iff.1 h).1
theorem RowRep.cells {q : Blk} {F : Nat → Prop} {w : World} {e sz : Nat} {es : List (List AV)} (h : RowRep q F w e sz es) {g : Nat} (hg : q.has g) : ∃ o, w.heap[g]? = some o ∧ ∀ x, o ≠ .deferred x := by
 rcases h with ⟨rfl, _⟩ | ⟨g', b, c, cur, rfl, _, _, h, _⟩
 ·exact hg.elim
 ·have e : g = g' := hg
  subst e
  exact ⟨_, h, fun x e => by cases e⟩
section
variable {F : Nat → Prop} {w : World} {e ei sz isz c : Nat} {hole : Option Nat} {es : List (List AV)} {R : Blk} {B : Nat → Blk} {V : List Nat → Value}
theorem LinRep.rcells (h : LinRep F w e ei sz isz c hole es R B V) {g : Nat} (hg : R.has g) : ∃ cur q, w.heap[g]? = some (.cells cur e q) := by
 rcases h.root with ⟨h1, _⟩ | ⟨g', b, cap, cur, h1, _, _, h2, _⟩
 ·rw [h1] at hg; exact hg.elim
 ·rw [h1] at hg
  have e : g = g' := hg
  subst e
  exact ⟨_, _, h2⟩
theorem LinRep.inner (h : LinRep F w e ei sz isz c hole es R B V) {k : Nat} (hk : k < c) (hh : hole ≠ some k) :
  ∃ g b cap cur cs row, R = .at_ g b cap es.length ∧ es.length ≤ cap ∧ w.heap[g]? = some (.cells cur e (0, 0)) ∧ es[k]? = some cs ∧ cs[sz - 1]? = some (.ro isz row) ∧ cur[(b + k) * sz + (sz - 1)]? = some (V [1, k]) ∧ (V [1, k]).oneCell' = true ∧ RowRep (B k) F w ei isz row ∧ HdrRep (B k) F w isz row.length (V [1, k]) := by
 have hkl : k < es.length := Nat.lt_of_lt_of_le hk h.hce
 have hsz := h.hsz
 rcases h.root with ⟨_, h2⟩ | ⟨g, b, cap, cur, h1, h0, _, h2, _, h3, h4⟩
 ·rw [h2] at hkl; exact absurd hkl (Nat.not_lt_zero _)
 ·have hl := h3 _ (List.getElem_mem hkl)
  have hj : sz - 1 < es[k].length := by omega
  obtain ⟨u, h5, h6, h7⟩ := h4 k _ (sz - 1) _ (List.getElem?_eq_getElem hkl) (List.getElem?_eq_getElem hj)
  rcases h7 with ⟨_, e1⟩ | ⟨_, _, _, e2, row, h8, h9, h10⟩ | ⟨h8, _⟩
  ·exact absurd e1 hh
  ·subst e2
   exact ⟨g, b, cap, cur, es[k], row, h1, h0, h2, List.getElem?_eq_getElem hkl, by rw [List.getElem?_eq_getElem hj, h8], h5, h6, h9, h10⟩
  ·have := (h8 (by omega)).1; omega
theorem LinRep.irow (h : LinRep F w e ei sz isz c hole es R B V) {k g : Nat} (hg : (B k).has g) : ∃ row, RowRep (B k) F w ei isz row := by
 have hk : k < c := Nat.lt_of_not_le fun hle => by rw [(h.out k (.inl hle)).1] at hg; exact hg
 have hh : hole ≠ some k := fun e => by rw [(h.out k (.inr e)).1] at hg; exact hg
 obtain ⟨_, _, _, _, _, row, _, _, _, _, _, _, _, h9, _⟩ := h.inner hk hh
 exact ⟨_, h9⟩
end
theorem HRep.nodef {σ : Nat → Option Blk} {F : Nat → Prop} {w : World} {h : List AObj} (hr : HRep σ F w h) {id g : Nat} (ho : hasB σ id g) {x} : w.heap[g]? ≠ some (.deferred x) := by
 intro hx
 have key : (∃ o, w.heap[g]? = some o ∧ ∀ x, o ≠ .deferred x) → False := fun ⟨o, h1, h2⟩ => by rw [hx] at h1; cases h1; exact h2 _ rfl
 obtain ⟨q, h1, h2⟩ := ho
 have hid : id < h.length := Nat.lt_of_not_le fun hge => by rw [hr.out id hge] at h1; cases h1
 have hob := hr.obj id _ (List.getElem?_eq_getElem hid)
 revert hob
 cases h[id] with
 | dead => intro hob; rw [show σ id = none from hob] at h1; cases h1
 | box e cs => rintro ⟨g', vs, h3, h4, _⟩; rw [h1] at h3; cases h3; cases (show g = g' from h2); exact key ⟨_, h4, fun x e => by cases e⟩
 | row e sz es =>
  rintro (⟨h3, _⟩ | ⟨g', b, c, cur, h3, _, _, h4, _⟩)
  ·rw [h1] at h3; cases h3; exact h2
  ·rw [h1] at h3; cases h3; cases (show g = g' from h2); exact key ⟨_, h4, fun x e => by cases e⟩
 | mapo es => rintro ⟨g', arr, clock, h3, h4, _⟩; rw [h1] at h3; cases h3; cases (show g = g' from h2); exact key ⟨_, h4, fun x e => by cases e⟩
 | iter last es => rintro ⟨g', om, since, seen, c0, h3, h4, _⟩; rw [h1] at h3; cases h3; cases (show g = g' from h2); exact key ⟨_, h4, fun x e => by cases e⟩
 | lin e ei sz isz part hole es =>
  rintro ⟨R, B, V, h3, h4⟩
  rw [h1] at h3; cases h3
  rcases h2 with h2 | ⟨k, h2⟩
  ·obtain ⟨cur, q, h5⟩ := h4.rcells h2
   exact key ⟨_, h5, fun x e => by cases e⟩
  ·obtain ⟨row, h5⟩ := h4.irow h2
   exact key (h5.cells h2)
structure RepAt (X : Ctx) (σ : Nat → Option Blk) (F : Nat → Prop) (s : St) (a : Act) (w : World) : Prop where
 defers : MarksX X.rf X.w0.heap.size F w a.defers
 size : a.tmps.size = X.n
 env : ∀ i, RepV σ F w (envGet s.env i) (a.tmps.getD i undef)
 heap : HRep σ F w s.heap
 keep : Keep X.M X.w0 w
 own : ∀ id g, hasB σ id g → X.M g ∨ X.w0.heap.size ≤ g
 fnew : ∀ b, F b → X.F0 b ∨ X.M b ∨ X.w0.heap.size ≤ b
 stab : ∀ id, id < X.m → σ id = X.σ0 id ∨ σ id = none
 hm : X.m ≤ s.heap.length
def Rep (X : Ctx) (s : St) (a : Act) (w : World) : Prop := ∃ σ F, RepAt X σ F s a w
def dOK (n : Nat) : Option Nat → Prop
 | some d => d < n
 | none => True
theorem Zjn (xs : Array Value) (d i : Nat) (v u : Value) (hd : d < xs.size) : (xs.setIfInBounds d v).getD i u = if i = d then v else xs.getD i u := by
 simp only [Array.getD_eq_getD_getElem?, Array.getElem?_setIfInBounds]
 by_cases h : d = i
 ·subst h; simp [hd]
 ·have h' : ¬ i = d := fun e => h e.symm
  simp [h, h']
section
variable {X : Ctx} {σ : Nat → Option Blk} {F : Nat → Prop} {s : St} {a : Act} {w : World}
theorem RepAt.put (h : RepAt X σ F s a w) {d : Option Nat} (hd : dOK X.n d) {x : AV} {v : Value} (hv : RepV σ F w x v) : RepAt X σ F (s.put d x) (a.put d v) w := by
 cases d with
 | none => exact h
 | some d =>
  refine ⟨h.defers, ?_, fun i => ?_, h.heap, h.keep, h.own, h.fnew, h.stab, h.hm⟩
  ·simpa [Act.put] using h.size
  ·simp only [Act.put, St.put, envGet]
   rw [Zjn _ _ _ _ _ (by rw [h.size]; exact hd)]
   split
   ·exact hv
   ·exact h.env i
theorem RepV.val {x y : Value} (h : RepV σ F w (.v x) y) : y = x := by
 cases h with
 | f _ _ h => cases h; rfl
def Z3v (v : Value) : AV := match v with
 | .agg vs => if vs.toList.all Value.oneCell' then .agg (vs.toList.map .v) else .v v
 | v => .v v
def St.ev (s : St) : Operand → AV
 | .tmp t => envGet s.env t
 | .const v => Z3v v
 | .global _ => .any
 | .func f => .fn f []
theorem Zi1 (v : Value) : RepV σ F w (Z3v v) v := by
 unfold Z3v
 split
 ·rename_i vs
  split
  ·rename_i h
   refine RepV.agg _ vs.toList (by simp) (fun u hu => List.all_eq_true.1 h u hu) (fun j x u hx hu => ?_)
   rw [List.getElem?_map, Option.map_eq_some_iff] at hx
   obtain ⟨q, hq, rfl⟩ := hx
   rw [hq] at hu
   injection hu with hu
   subst hu
   exact .f _ _ (.v _)
  ·exact .f _ _ (.v _)
 ·exact .f _ _ (.v _)
theorem RepAt.ev (h : RepAt X σ F s a w) (o : Operand) : RepV σ F w (s.ev o) (a.eval o) := by
 cases o with
 | tmp t => exact h.env t
 | const v => exact Zi1 v
 | global g => exact .f _ _ (.any _)
 | func f => exact .fn f [] [] rfl (fun j x u h1 h2 => by simp at h1)
inductive AV.le : AV → AV → Prop
 | refl (x : AV) : AV.le x x
 | any (x : AV) : AV.le x .any
 | nilro (sz : Nat) (a : Option Addr) (c : Nat) : AV.le (.v (.slice a 0 c)) (.ro sz [])
 | nilmp : AV.le (.v (.map none)) (.mp [])
 | rpLe (cs ds : List AV) (hl : cs.length = ds.length) (h : ∀ (j : Nat) (x y : AV), cs[j]? = some x → ds[j]? = some y → AV.le x y) : AV.le (.rp cs) (.rp ds)
 | fn (f : Nat) (cs ds : List AV) (hl : cs.length = ds.length) (h : ∀ (j : Nat) (x y : AV), cs[j]? = some x → ds[j]? = some y → AV.le x y) : AV.le (.fn f cs) (.fn f ds)
 | rpTake (cs : List AV) (n : Nat) : AV.le (.rp cs) (.rp (cs.take n))
 | agg (cs ds : List AV) (hl : cs.length = ds.length) (h : ∀ (j : Nat) (x y : AV), cs[j]? = some x → ds[j]? = some y → AV.le x y) : AV.le (.agg cs) (.agg ds)
 | tup (cs ds : List AV) (hl : cs.length = ds.length) (h : ∀ (j : Nat) (x y : AV), cs[j]? = some x → ds[j]? = some y → AV.le x y) : AV.le (.tup cs) (.tup ds)
theorem RepF.leF {x x' : AV} (hl : AV.le x x') : ∀ {y : Value}, RepF F w x y → RepF F w x' y := by
 induction hl with
 | refl => exact fun h => h
 | any => exact fun _ => .any _
 | nilro sz a c => exact fun h => by cases h; exact .nil0 _ _ _
 | nilmp => exact fun h => by cases h; exact .mp0
 | agg => exact fun h => by cases h
 | tup => exact fun h => by cases h
 | fn f cs ds hl hle ih =>
  intro y h
  cases h with
  | fn _ _ vs hv h2 =>
   refine .fn f ds vs (hl.symm.trans hv) (fun j x u hx hu => ?_)
   have hj : j < cs.length := by have := (List.getElem?_eq_some_iff.1 hx).1; omega
   exact ih j _ x (List.getElem?_eq_getElem hj) hx (h2 j _ u (List.getElem?_eq_getElem hj) hu)
 | rpTake cs n =>
  intro y h
  have hget : ∀ (j : Nat) (x : AV), (cs.take n)[j]? = some x → cs[j]? = some x := fun j x hx => by
   rw [List.getElem?_take] at hx
   split at hx
   ·exact hx
   ·cases hx
  cases h with
  | rp _ ad V hF hcell hr => exact .rp _ ad V hF (fun j x hx => hcell j x (hget j x hx)) (fun j x hx => hr j x (hget j x hx))
 | rpLe cs ds hl h ih =>
  intro y hy
  cases hy with
  | rp _ ad V hF hcell hr =>
   have hget : ∀ (j : Nat) (x : AV), ds[j]? = some x → ∃ x0, cs[j]? = some x0 := fun j x hx => by
    have hj : j < cs.length := by have := (List.getElem?_eq_some_iff.1 hx).1; omega
    exact ⟨_, List.getElem?_eq_getElem hj⟩
   refine .rp _ ad V hF (fun j x hx => ?_) (fun j x hx => ?_)
   ·obtain ⟨x0, h0⟩ := hget j x hx
    exact hcell j x0 h0
   ·obtain ⟨x0, h0⟩ := hget j x hx
    exact ih j x0 x h0 hx (hr j x0 h0)
theorem RepV.le {x x' : AV} (hl : AV.le x x') : ∀ {y : Value}, RepV σ F w x y → RepV σ F w x' y := by
 induction hl with
 | refl => exact fun h => h
 | any => exact fun _ => .f _ _ (.any _)
 | nilro sz a c =>
  intro y h
  cases h with
  | f _ _ h => cases h; exact .f _ _ (.nil0 _ _ _)
 | nilmp =>
  intro y h
  cases h with
  | f _ _ h => cases h; exact .f _ _ .mp0
 | rpLe cs ds hl h ih =>
  intro y hy
  cases hy with
  | f _ _ hy =>
   cases hy with
   | rp _ ad V hF hcell hr =>
    have hget : ∀ (j : Nat) (x : AV), ds[j]? = some x → ∃ x0, cs[j]? = some x0 := fun j x hx => by
     have hj : j < cs.length := by have := (List.getElem?_eq_some_iff.1 hx).1; omega
     exact ⟨_, List.getElem?_eq_getElem hj⟩
    refine .f _ _ (.rp _ ad V hF (fun j x hx => ?_) (fun j x hx => ?_))
    ·obtain ⟨x0, h0⟩ := hget j x hx
     exact hcell j x0 h0
    ·obtain ⟨x0, h0⟩ := hget j x hx
     exact RepF.leF (h j x0 x h0 hx) (hr j x0 h0)
 | rpTake cs n =>
  intro y h
  have hget : ∀ (j : Nat) (x : AV), (cs.take n)[j]? = some x → cs[j]? = some x := fun j x hx => by
   rw [List.getElem?_take] at hx
   split at hx
   ·exact hx
   ·cases hx
  cases h with
  | f _ _ h =>
   cases h with
   | rp _ ad V hF hcell hr => exact .f _ _ (.rp _ ad V hF (fun j x hx => hcell j x (hget j x hx)) (fun j x hx => hr j x (hget j x hx)))
 | agg cs ds hl h ih =>
  intro y hy
  cases hy with
  | f _ _ h => cases h
  | agg _ vs hv h1 h2 =>
   refine .agg ds vs (hl.symm.trans hv) h1 (fun j x u hx hu => ?_)
   have hj : j < cs.length := by have := (List.getElem?_eq_some_iff.1 hx).1; omega
   exact ih j _ x (List.getElem?_eq_getElem hj) hx (h2 j _ u (List.getElem?_eq_getElem hj) hu)
 | tup cs ds hl h ih =>
  intro y hy
  cases hy with
  | f _ _ h => cases h
  | tup _ vs hv h2 =>
   refine .tup ds vs (hl.symm.trans hv) (fun j x u hx hu => ?_)
   have hj : j < cs.length := by have := (List.getElem?_eq_some_iff.1 hx).1; omega
   exact ih j _ x (List.getElem?_eq_getElem hj) hx (h2 j _ u (List.getElem?_eq_getElem hj) hu)
 | fn f cs ds hl h ih =>
  intro y hy
  cases hy with
  | f _ _ h0 => exact .f _ _ (RepF.leF (.fn f cs ds hl h) h0)
  | fn _ _ vs hv h2 =>
   refine .fn f ds vs (hl.symm.trans hv) (fun j x u hx hu => ?_)
   have hj : j < cs.length := by have := (List.getElem?_eq_some_iff.1 hx).1; omega
   exact ih j _ x (List.getElem?_eq_getElem hj) hx (h2 j _ u (List.getElem?_eq_getElem hj) hu)
def St.le (s s' : St) : Prop := s.heap = s'.heap ∧ ∀ i, AV.le (envGet s.env i) (envGet s'.env i)
theorem RepAt.le {s' : St} (h : RepAt X σ F s a w) (hl : s.le s') : RepAt X σ F s' a w :=
 ⟨h.defers, h.size, fun i => RepV.le (hl.2 i) (h.env i), by rw [← hl.1]; exact h.heap, h.keep, h.own, h.fnew, h.stab, by rw [← hl.1]; exact h.hm⟩
end
def lift (X : Ctx) (Q : Exit → St → Prop) : Exit → Act → World → Prop := fun e a w => ∃ s, Q e s ∧ Rep X s a w
def fnc (ro : Option Nat) : Fence := { Fence.wide with round := ro }
def WP (P : Program) (X : Ctx) (c : Code) (Q : Exit → St → Prop) (s : St) : Prop := ∀ a w, Rep X s a w → c.wpIn (fnc X.ro) 0 P (lift X Q) a w
theorem WP.wide {P : Program} {X : Ctx} {c : Code} {Q : Exit → Act → World → Prop} {a : Act} {w : World} (h : X.ro = none) : c.wpIn (fnc X.ro) 0 P Q a w ↔ c.wp P Q a w := by
 rw [h]; exact wpIn_wide
theorem Z3w {F : Fence} {m : Nat} {P : Program} {Q : Exit → Act → World → Prop} {a : Act} {w : World} {c : Code} (I : Nat → Act → World → Prop) (n₀ : Nat) (h₀ : I n₀ a w)
  (round : ∀ n a w, I n a w → c.wpIn F m P (Exit.then (fun a' w' => ∃ n', n' < n ∧ I n' a' w') Q) a w) : (Code.loop c).wpIn F m P Q a w := by
 refine wpIn_loop (fun a w => ∃ n, I n a w) (fun a w => leastOf (fun n => I n a w)) ⟨n₀, h₀⟩ ?_
 intro a w hI
 refine wpIn_mono (round _ a w (leastOf_spec hI).1) ?_
 intro e a' w' hq
 cases e with
 | normal =>
  obtain ⟨n', hlt, hI'⟩ := hq
  exact show (∃ n, I n a' w') ∧ leastOf (fun n => I n a' w') < leastOf (fun n => I n a w) from ⟨⟨n', hI'⟩, Nat.lt_of_le_of_lt ((leastOf_spec ⟨n', hI'⟩).2 n' hI') hlt⟩
 | _ => exact hq
def Zip (K : St → Prop) (Q : Exit → St → Prop) : Exit → St → Prop
 | .normal, s => K s
 | e, s => Q e s
def Zek (id : Nat) (Q : Exit → St → Prop) : Exit → St → Prop
 | .exit i, s => if i = id then Q .normal s else Q (.exit i) s
 | e, s => Q e s
theorem Code.wp_mono' {P : Program} {c : Code} {Q Q' : Exit → Act → World → Prop} {a : Act} {w : World} (h : c.wp P Q a w) (hq : ∀ e a w, Q e a w → Q' e a w) : c.wp P Q' a w :=
 fun b k cs => let ⟨e, a', w', q, r⟩ := h b k cs; ⟨e, a', w', hq _ _ _ q, r⟩
section
variable {P : Program} {X : Ctx} {Q Q' : Exit → St → Prop} {s s' : St} {x y : Code}
theorem WP.mono (h : WP P X x Q s) (hq : ∀ e s, Q e s → Q' e s) : WP P X x Q' s :=
 fun a w hr => wpIn_mono (h a w hr) fun _ _ _ ⟨s, h1, h2⟩ => ⟨s, hq _ _ h1, h2⟩
theorem WP.le (hl : s.le s') (h : WP P X x Q s') : WP P X x Q s :=
 fun a w ⟨σ, F, hr⟩ => h a w ⟨σ, F, hr.le hl⟩
theorem WP.skip (h : Q .normal s) : WP P X .skip Q s := fun a w hr => wpIn_skip ⟨s, h, hr⟩
theorem WP.exit {id : Nat} (h : Q (.exit id) s) : WP P X (.exit id) Q s := fun a w hr => wpIn_exit ⟨s, h, hr⟩
theorem WP.ret (h : Q .ret s) : WP P X .ret Q s := fun a w hr => wpIn_ret ⟨s, h, hr⟩
theorem WP.seq (h : WP P X x (Zip (WP P X y Q) Q) s) : WP P X (.seq x y) Q s := by
 intro a w hr
 refine wpIn_seq (wpIn_mono (h a w hr) ?_)
 rintro e a w ⟨s, h1, h2⟩
 cases e with
 | normal => exact h1 a w h2
 | _ => exact ⟨s, h1, h2⟩
theorem WP.block {id : Nat} (h : WP P X x (Zek id Q) s) : WP P X (.block id x) Q s := by
 intro a w hr
 refine wpIn_block (wpIn_mono (h a w hr) ?_)
 rintro e a w ⟨s, h1, h2⟩
 cases e with
 | exit i =>
  simp only [Zek] at h1
  simp only [Exit.inBlock]
  split
  ·rename_i hi; rw [if_pos hi] at h1; exact ⟨s, h1, h2⟩
  ·rename_i hi; rw [if_neg hi] at h1; exact ⟨s, h1, h2⟩
 | _ => exact ⟨s, h1, h2⟩
theorem WP.cond {c : Operand} {t : Bool} (hc : s.ev c = .v (.bool t)) (h1 : t = true → WP P X x Q s) (h2 : t = false → WP P X y Q s) : WP P X (.cond c x y) Q s := by
 rintro a w ⟨σ, F, hr⟩
 have he := hr.ev c
 rw [hc] at he
 have he' : a.eval c = .bool t := RepV.val he
 exact wpIn_cond_split he' (fun h => h1 h a w ⟨σ, F, hr⟩) (fun h => h2 h a w ⟨σ, F, hr⟩)
theorem WP.loop (I : St → Prop) (μ : St → Nat) (h0 : I s) (round : ∀ s, I s → WP P X x (Zip (fun s' => ∃ s'', s'.le s'' ∧ I s'' ∧ μ s'' < μ s) Q) s) : WP P X (.loop x) Q s := by
 rintro a w hr
 refine Z3w (fun n a w => ∃ s, μ s = n ∧ I s ∧ Rep X s a w) (μ s) ⟨s, rfl, h0, hr⟩ ?_
 rintro n a w ⟨s, rfl, hI, hr⟩
 refine wpIn_mono (round s hI a w hr) ?_
 rintro e a w ⟨s', h1, h2⟩
 cases e with
 | normal =>
  obtain ⟨s'', hl, hI', hlt⟩ := h1
  obtain ⟨σ, F, h2⟩ := h2
  exact ⟨μ s'', hlt, s'', rfl, hI', σ, F, h2.le hl⟩
 | _ => exact ⟨s', h1, h2⟩
end
end Go.Proofs.YtnehieeplbgaiacDoor.Eng
set_option linter.unusedVariables false
set_option linter.unusedSimpArgs false
namespace Go.Proofs.YtnehieeplbgaiacDoor.Eng
open Go
inductive TK where
 | int (k : IntKind)
 | bool
 | str
 | slice (e : Nat)
 | struct (fs : List (Nat × Nat))
 | ptr (e : Nat)
 | map (k e : Nat)
 | other
structure TI where
 k : TK
 size : Nat
 bytes : Nat
 zero : Value
abbrev Tab := Nat → Option TI
def TK.is (P : Program) (t : Nat) : TK → Prop
 | .int k => P.underlying t = some (.int k)
 | .bool => P.underlying t = some .bool
 | .str => P.underlying t = some .string
 | .slice e => P.underlying t = some (.slice e)
 | .struct fs => ∃ a : Array Field, P.underlying t = some (.struct a) ∧ a.toList.map (fun f => (f.offset, f.type)) = fs
 | .ptr e => P.underlying t = some (.pointer e)
 | .map k e => P.underlying t = some (.map k e)
 | .other => ∃ d, P.underlying t = some d ∧ (match d with | .struct _ | .array _ _ => False | _ => True)
structure TIOk (P : Program) (t : Nat) (i : TI) : Prop where
 kind : i.k.is P t
 info : (P.info? t).map (fun x => (x.zero, x.size, x.bytes)) = some (some i.zero, i.size, i.bytes)
 cells : i.zero.cells.size = i.size
 one : i.zero.cells.toList.all Value.oneCell' = true
def Zh (P : Program) (T : Tab) : Prop := ∀ t i, T t = some i → TIOk P t i
def TK.agg : TK → Bool
 | .struct _ => true
 | _ => false
section
variable {P : Program} {t : Nat} {i : TI} {w : World}
theorem TIOk.size_run (h : TIOk P t i) : (sizeOf t).run P w = .ok i.size w := by
 obtain ⟨x, hx, hh⟩ := Option.map_eq_some_iff.1 h.info
 simp only [Prod.mk.injEq] at hh
 obtain ⟨_, h2, _⟩ := hh
 simp [sizeOf, typeInfo, hx, h2]
theorem TIOk.bytes_run (h : TIOk P t i) : ∃ x, (typeInfo t).run P w = .ok x w ∧ x.bytes = i.bytes ∧ x.size = i.size ∧ x.zero = some i.zero := by
 obtain ⟨x, hx, hh⟩ := Option.map_eq_some_iff.1 h.info
 simp only [Prod.mk.injEq] at hh
 obtain ⟨h1, h2, h3⟩ := hh
 exact ⟨x, by simp [typeInfo, hx], h3, h2, h1⟩
theorem TIOk.zero_run (h : TIOk P t i) : (zeroValue t).run P w = .ok i.zero w := by
 obtain ⟨x, hx, h1, h2, h3⟩ := h.bytes_run (w := w)
 simp [zeroValue, hx, h3]
theorem TIOk.agg_run (h : TIOk P t i) : (isAgg t).run P w = .ok i.k.agg w := by
 have hk := h.kind
 unfold isAgg
 cases hi : i.k with
 | struct fs =>
  rw [hi] at hk
  obtain ⟨a, ha, _⟩ := hk
  simp [run_underlying ha, TK.agg]
 | other =>
  rw [hi] at hk
  obtain ⟨d, hd, hm⟩ := hk
  cases d <;> first | (exact hm.elim) | simp [run_underlying hd, TK.agg]
 | _ =>
  rw [hi] at hk
  simp [run_underlying hk, TK.agg]
end
def opWP (P : Program) (X : Ctx) (o : Oper) (K : St → Prop) (s : St) : Prop :=
 ∀ (Qc : Exit → Act → World → Prop) (next : Act → World → Prop) a w, (∀ s' a' w', K s' → Rep X s' a' w' → next a' w') → Rep X s a w → o.wp P a w next Qc
def WPO (P : Program) (X : Ctx) (ops : Array Oper) (rest : List Oper) (K : St → Prop) (s : St) : Prop :=
 ∀ (Qc : Exit → Act → World → Prop) a w, (∀ s' a' w', K s' → Rep X s' a' w' → Qc .normal a' w') → Rep X s a w → wpList P ops Qc rest a w
section
variable {P : Program} {X : Ctx} {ops : Array Oper} {rest : List Oper} {o : Oper} {K : St → Prop} {s : St}
theorem WPO.nil (h : K s) : WPO P X ops [] K s := fun Qc a w hK hr => wpList_nil (hK s a w h hr)
theorem WPO.cons (hg : o.guard = none) (h : opWP P X o (WPO P X ops rest K) s) : WPO P X ops (o :: rest) K s := by
 intro Qc a w hK hr
 refine wpList_plain hg fun K' hK' => ?_
 exact h Qc _ a w (fun s' a' w' h1 h2 => hK' a' w' (h1 Qc a' w' hK h2)) hr
theorem WPO.guard {j d : Nat} {want b : Bool} (hg : o.guard = some (j, want)) (hj : (ops[j]?).bind (·.dst) = some d) (hd : envGet s.env d = .v (.bool b)) (hdst : dOK X.n o.dst) (hn : d < X.n)
  (h1 : b = want → opWP P X o (WPO P X ops rest K) s) (h2 : b = !want → WPO P X ops rest K (s.put o.dst .any)) : WPO P X ops (o :: rest) K s := by
 rintro Qc a w hK ⟨σ, F, hr⟩
 have hv : a.tmps.getD d undef = .bool b := RepV.val (hd ▸ hr.env d)
 have hy : yielded ops a.tmps j = some b := by
  have hlt : d < a.tmps.size := by rw [hr.size]; exact hn
  have : a.tmps[d]? = some (.bool b) := by
   rw [Array.getElem?_eq_getElem hlt]
   rw [Array.getD_eq_getD_getElem?, Array.getElem?_eq_getElem hlt] at hv
   exact congrArg some hv
  simp [yielded, hj, this]
 refine wpList_step fun K' hK' => ?_
 simp only [Region.wanted, hg, hy]
 by_cases hb : b = want
 ·rw [if_pos (by simp [hb])]
  exact h1 hb Qc _ a w (fun s' a' w' h3 h4 => hK' a' w' (h3 Qc a' w' hK h4)) ⟨σ, F, hr⟩
 ·rw [if_neg (by simpa using hb)]
  have hb' : b = !want := by cases b <;> cases want <;> simp_all
  exact hK' _ _ (h2 hb' Qc _ _ hK ⟨σ, F, hr.put hdst (.f _ _ (.any _))⟩)
def noDef : List Oper → Bool
 | [] => true
 | o :: r => (match o.op with | .defer _ => false | _ => true) && noDef r
theorem Zdz {o : Oper} (h : (match o.op with | .defer _ => false | _ => true) = true) : ∀ c, o.op ≠ .defer c := fun c e => by rw [e] at h; cases h
theorem Zgw {ro : Option Nat} {ops : Array Oper} {Q : Exit → Act → World → Prop} (hQ : ¬ LetsOut Q) : ∀ (l : List Oper) (a : Act) (w : World), noDef l = true → wpList P ops Q l a w → wpListIn (fnc ro) 0 P ops Q l a w
 | [], a, w, _, h => h
 | o :: r, a, w, hd, h => by
  simp only [noDef, Bool.and_eq_true] at hd
  have ih := fun a w => Zgw (ro := ro) (ops := ops) hQ r a w hd.2
  unfold wpList at h
  unfold wpListIn
  split at h
  ·rename_i hw
   rw [if_pos hw]
   rcases h with h | h
   ·refine ⟨fun _ _ => trivial, ?_⟩
    rw [Oper.semAt_eq _ _ _ (Zdz hd.1)]
    unfold Oper.wp at h
    revert h
    cases (execOp a.eval o).run P w with
    | ok n w' =>
     cases n with
     | value v => exact fun h => ih _ _ h
     | skip => exact fun h => ih _ _ h
     | defer d => exact fun h => ih _ _ h
     | enter f args =>
      intro h
      refine ⟨fun e => (nomatch e), ?_⟩
      have h1 := (callsIn_wide (n := 0)).2 h
      exact CallsIn.mono (F := fnc ro) (n := 0) h1 fun e w'' he => by
       cases e with
       | returned v => exact ih _ _ he
       | panicked c => exact he
       | outgrown => exact he
     | row rw args =>
      intro h
      exact ⟨fun e => (nomatch e), fun c cs _ => let ⟨v, w', r, s⟩ := h c cs; ⟨v, w', ih _ _ r, stepsIn_wide.2 s⟩⟩
     | _ => exact fun h => h.elim
    | halt h' w' => cases h' <;> exact fun h => h
   ·exact absurd h.2 hQ
  ·rename_i hw
   rw [if_neg hw]
   exact ⟨fun _ _ => trivial, ih _ _ h⟩
theorem WP.region {id : Nat} {Q : Exit → St → Prop} {l : List Oper} (h : WPO P X l.toArray l (Q .normal) s) (hro : X.ro = none ∨ noDef l = true) : WP P X (.region id l.toArray false) Q s := by
 intro a w hr
 rcases hro with hro | hd
 ·rw [WP.wide hro]
  refine wp_region_lit ?_
  exact h _ a w (fun s' a' w' h1 h2 => ⟨s', h1, h2⟩) hr
 ·have h1 := Zgw (ro := X.ro) (Q := fun e a w => e = .normal ∧ ∃ s', Q .normal s' ∧ Rep X s' a w) (fun ⟨a, w, h⟩ => by cases h.1) l a w hd (h _ a w (fun s' a' w' h1 h2 => ⟨rfl, s', h1, h2⟩) hr)
  exact wpIn_mono (wpIn_region_lit h1) (fun e a w ⟨he, s', h2, h3⟩ => by subst he; exact ⟨s', h2, h3⟩)
theorem opWP.val {x : AV} (hrun : ∀ σ F a w, RepAt X σ F s a w → ∃ v, (execOp a.eval o).run P w = .ok (.value v) w ∧ RepV σ F w x v) (hd : dOK X.n o.dst) (hK : K (s.put o.dst x)) : opWP P X o K s := by
 rintro Qc next a w hn ⟨σ, F, hr⟩
 obtain ⟨v, he, hv⟩ := hrun σ F a w hr
 unfold Oper.wp
 rw [he]
 exact hn _ _ _ hK ⟨σ, F, hr.put hd hv⟩
end
def InR (x : Int) : Prop := -9223372036854775808 ≤ x ∧ x ≤ 9223372036854775807
def Zcf (k : IntKind) (r : Int) : Prop × Value :=
 (True, .int k (k.wrap r))
theorem Zak {k : IntKind} {r : Int} (h : (Zcf k r).1) : Value.int k (k.wrap r) = (Zcf k r).2 := by
 rfl
def Zdb (op : BinOp) (k : IntKind) (a b : Int) : Option (Prop × Value) :=
 match op with
 | .add => some (Zcf k (a + b))
 | .sub => some (Zcf k (a - b))
 | .mul => some (Zcf k (a * b))
 | .quo => some (0 ≤ a ∧ 0 < b ∧ k = .i64 ∧ a ≤ 9223372036854775807, .int k (a / b))
 | .rem => some (b ≠ 0, .int k (a.tmod b))
 | .and => some (True, .int k (k.wrap (BitVec.ofInt k.bits a &&& BitVec.ofInt k.bits b).toNat))
 | .or => some (True, .int k (k.wrap (BitVec.ofInt k.bits a ||| BitVec.ofInt k.bits b).toNat))
 | .xor => some (True, .int k (k.wrap (BitVec.ofInt k.bits a ^^^ BitVec.ofInt k.bits b).toNat))
 | .eql => some (True, .bool (decide (a = b)))
 | .neq => some (True, .bool (!decide (a = b)))
 | .lss => some (True, .bool (decide (a < b)))
 | .leq => some (True, .bool (decide (a ≤ b)))
 | .gtr => some (True, .bool (decide (b < a)))
 | .geq => some (True, .bool (decide (b ≤ a)))
 | _ => none
def evStr (op : BinOp) (a b : ByteArray) : Option (Prop × Value) :=
 match op with
 | .add => some (((a.size + b.size : Nat) : Int) ≤ 9223372036854775807, .string (a ++ b))
 | .eql => some (True, .bool (decide (a = b)))
 | .neq => some (True, .bool (!decide (a = b)))
 | .lss => some (True, .bool (Op.bytesLess a.toList b.toList))
 | .leq => some (True, .bool (Op.bytesLess a.toList b.toList || decide (a = b)))
 | .gtr => some (True, .bool (!(Op.bytesLess a.toList b.toList || decide (a = b))))
 | .geq => some (True, .bool (!Op.bytesLess a.toList b.toList))
 | _ => none
def Za7 (op : BinOp) (k : IntKind) (a b : Int) : Option (Prop × Value) :=
 match op with
 | .shl => some (0 ≤ b, .int k (k.wrap (a * 2 ^ min b.toNat k.bits)))
 | .shr => some (0 ≤ b, .int k (a.fdiv (2 ^ min b.toNat k.bits)))
 | _ => none
def Z6q (op : BinOp) (x y : Value) : Option (Prop × Value) :=
 match x, y with
 | .int k a, .int k' b => match op with
  | .shl | .shr => Za7 op k a b
  | _ => if k = k' then Zdb op k a b else none
 | .string a, .string b => evStr op a b
 | _, _ => none
theorem Zia (a b : ByteArray) : (a.toList == b.toList) = decide (a = b) := by
 rw [ByteArray.toList_eq, ByteArray.toList_eq, Bool.eq_iff_iff]
 constructor
 ·intro h
  exact decide_eq_true (ByteArray.ext (Array.toList_inj.1 (by simpa using h)))
 ·intro h
  rw [of_decide_eq_true h]
  simp
theorem Zjr {P : Program} {w : World} {op : BinOp} {k : IntKind} {a b : Int} {c : Prop} {r : Value} (h : Zdb op k a b = some (c, r)) (hc : c) (hs : op ≠ .shl ∧ op ≠ .shr) (t : Nat) :
  (binOp op t (.int k a) (.int k b)).run P w = .ok r w := by
 cases op <;> simp only [Zdb, Option.some.injEq, Prod.mk.injEq, reduceCtorEq] at h <;> simp only [binOp, ne_eq, not_true_eq_false, if_false]
 case add => have hq := congrArg Prod.fst h; have hr := congrArg Prod.snd h; simp only at hq hr; subst hr; rw [← hq] at hc; simp [Op.intArith, Zak hc]
 case sub => have hq := congrArg Prod.fst h; have hr := congrArg Prod.snd h; simp only at hq hr; subst hr; rw [← hq] at hc; simp [Op.intArith, Zak hc]
 case mul => have hq := congrArg Prod.fst h; have hr := congrArg Prod.snd h; simp only at hq hr; subst hr; rw [← hq] at hc; simp [Op.intArith, Zak hc]
 case quo =>
  obtain ⟨h1, rfl⟩ := h
  rw [← h1] at hc
  obtain ⟨h2, h3, rfl, h4⟩ := hc
  simp [Op.intDiv, show b ≠ 0 by omega, IntWalk.i64_quo a b ⟨h2, h4, by omega⟩]
 case rem =>
  obtain ⟨h1, rfl⟩ := h
  rw [← h1] at hc
  simp [Op.intDiv, hc]
 all_goals (obtain ⟨h1, rfl⟩ := h; simp [Op.intBits, Op.intCmp, Bool.beq_eq_decide_eq, bne])
theorem Zjs {P : Program} {w : World} {op : BinOp} {x y : Value} {c : Prop} {r : Value} (h : Z6q op x y = some (c, r)) (hc : c) (t : Nat) : (binOp op t x y).run P w = .ok r w := by
 unfold Z6q at h
 split at h
 ·rename_i k a k' b
  split at h
  ·simp only [Za7, Option.some.injEq, Prod.mk.injEq] at h
   obtain ⟨h1, rfl⟩ := h
   rw [← h1] at hc
   simp [binOp, Op.shift, show ¬ b < 0 by omega]
  ·simp only [Za7, Option.some.injEq, Prod.mk.injEq] at h
   obtain ⟨h1, rfl⟩ := h
   rw [← h1] at hc
   simp [binOp, Op.shift, show ¬ b < 0 by omega]
  ·rename_i h1 h2
   split at h
   ·rename_i hk
    subst hk
    exact Zjr h hc ⟨h1, h2⟩ t
   ·cases h
 ·rename_i a b
  unfold evStr at h
  cases op <;> simp only [Option.some.injEq, Prod.mk.injEq, reduceCtorEq] at h
  case add =>
   obtain ⟨h1, rfl⟩ := h
   rw [← h1] at hc
   have hm : IntKind.i64.max = 9223372036854775807 := by decide
   simp only [binOp, Op.stringOp, hm]
   rw [if_neg (by omega)]
   rfl
  all_goals (obtain ⟨h1, rfl⟩ := h; simp [binOp, Op.stringOp, Zia])
 ·cases h
end Go.Proofs.YtnehieeplbgaiacDoor.Eng
set_option linter.unusedVariables false
set_option linter.unusedSimpArgs false
namespace Go.Proofs.YtnehieeplbgaiacDoor.Eng
open Go
def Z2 (es : List (List AV)) (i : Nat) : List AV := (es[i]?).getD []
def Z12 (i : TI) (cs : List AV) : AV := if i.k.agg then .agg (cs.take i.size) else (cs[0]?).getD .any
def Zu (o : Option AObj) (i sz : Nat) : Prop × List AV :=
 match o with
 | some (.box _ cs) => (i = 0, cs)
 | some (.row _ sz' es) => (i < es.length ∧ sz = sz', Z2 es i)
 | _ => (False, [])
def Zc7 (l : List UInt8) : List (List AV) := l.map fun b => [.v (.int .u8 (b.toNat : Int))]
def bnds (lo hi : Option AV) (len : Nat) : Option (Prop × Nat × Nat) :=
 match lo, hi with
 | none, none => some (True, 0, len)
 | some (.v (.int _ l)), none => some (0 ≤ l ∧ l ≤ (len : Int), l.toNat, len)
 | none, some (.v (.int _ h)) => some (0 ≤ h ∧ h ≤ (len : Int), 0, h.toNat)
 | some (.v (.int _ l)), some (.v (.int _ h)) => some (0 ≤ l ∧ l ≤ h ∧ h ≤ (len : Int), l.toNat, h.toNat)
 | _, _ => none
def byteE : List AV → Option UInt8
 | [.v (.int .u8 n)] => some (UInt8.ofNat n.toNat)
 | _ => none
def byteL : List (List AV) → Option (List UInt8)
 | [] => some []
 | e :: r => match byteE e, byteL r with
  | some b, some l => some (b :: l)
  | _, _ => none
def bstr (l : List UInt8) : ByteArray := ⟨l.toArray⟩
def Z4q (h : List AObj) : AV → Option (Prop × ByteArray)
 | .v (.slice none 0 0) => some (True, bstr [])
 | .ro sz es => if sz = 1 then (byteL es).map fun l => (True, bstr l) else none
 | .own id sz off len => match h[id]? with
  | some (.row _ sz' es) => if sz = 1 ∧ sz' = 1 then (byteL ((es.drop off).take len)).map fun l => (off + len ≤ es.length, bstr l) else none
  | _ => none
 | _ => none
def innOf (cs : List AV) : List (List AV) := match cs.getLast? with
 | some (.ro _ es) => es
 | _ => []
def Zfb (h : List AObj) (id : Nat) (k : List Nat) (n : Int) (ti : TI) : Option (Prop × AV) := match k with
 | [0] => (match h[id]? with
  | some (.lin _ _ sz _ _ _ es) => some (0 ≤ n ∧ n < (es.length : Int) ∧ ti.size = sz, .nm id [2, n.toNat, 0])
  | _ => none)
 | _ => none
def Zhp (h : List AObj) (id : Nat) (k : List Nat) (off : Nat) : Option (Prop × AV) := match k with
 | [2, n, j] => (match h[id]? with
  | some (.lin _ _ _ _ _ _ es) => some (n < es.length, .nm id [2, n, j + off])
  | _ => none)
 | _ => none
def Z6i (h : List AObj) (id : Nat) (k : List Nat) (i : TI) : Option (Prop × AV) := match k with
 | [2, n, j] => (match h[id]? with
  | some (.lin _ _ sz _ part hole es) => (match decide (j + i.size < sz), part, hole with
   | true, _, _ => some (n < es.length ∧ 0 < i.size ∧ (i.k.agg = false → i.size = 1), Z12 i ((Z2 es n).drop j))
   | false, none, none => some (n < es.length ∧ j + 1 = sz ∧ i.k.agg = false, .nm id [1, n])
   | false, some c, none => some (n < es.length ∧ c ≤ n ∧ j + i.size ≤ sz ∧ 0 < i.size ∧ (i.k.agg = false → i.size = 1), Z12 i ((Z2 es n).drop j))
   | _, _, _ => none)
  | _ => none)
 | _ => none
def Zd7 (h : List AObj) (id : Nat) (k : List Nat) : Option (Prop × AV) := match k with
 | [0] => (match h[id]? with
  | some (.lin _ _ _ _ _ _ es) => some (True, .v (.int .i64 (es.length : Int)))
  | _ => none)
 | [1, n] => (match h[id]? with
  | some (.lin _ _ _ _ none none es) => some (n < es.length, .v (.int .i64 ((innOf (Z2 es n)).length : Int)))
  | _ => none)
 | _ => none
def Zf7 (h : List AObj) (id : Nat) (k : List Nat) : Option (Prop × AV) := match k with
 | [2, n, j] => (match h[id]? with
  | some (.lin _ _ _ _ _ _ es) => some (n < es.length, .nm id [2, n, j])
  | _ => none)
 | _ => none
def Z9d (h : List AObj) (id : Nat) (k : List Nat) (lo hi : Option AV) (ti : TI) : Option (Prop × AV) := match k with
 | [1, n] => (match h[id]? with
  | some (.lin _ _ _ isz none none es) => (match bnds lo hi (innOf (Z2 es n)).length with
   | some (p, l, h) => some (n < es.length ∧ p ∧ isz = ti.size, .nm id [3, n, l, h])
   | none => none)
  | _ => none)
 | _ => none
def Zc (T : Tab) (s : St) (op : Op) : Option (Prop × AV) :=
 match op with
 | .move x => some (True, s.ev x)
 | .assign x => some (True, s.ev x)
 | .binOp op t x y _ =>
  match s.ev x, s.ev y with
  | .v a, .v b => match Z6q op a b with
   | some (c, r) => some (c, .v r)
   | none => match op, a, b with
    | .eql, .bool a, .bool b => match T t with | some { k := .bool, .. } => some (True, .v (.bool (a == b))) | _ => none
    | .neq, .bool a, .bool b => match T t with | some { k := .bool, .. } => some (True, .v (.bool (!(a == b)))) | _ => none
    | _, _, _ => none
  | _, _ => none
 | .unOp op _ x =>
  match op, s.ev x with
  | .not, .v (.bool b) => some (True, .v (.bool !b))
  | .neg, .v (.int .i64 n) => some (InR (-n), .v (.int .i64 (-n)))
  | _, _ => none
 | .convert src dst x =>
  match T src, T dst, s.ev x with
  | some { k := .int _, .. }, some { k := .int k, .. }, .v (.int _ n) => some (True, .v (.int k (k.wrap n)))
  | some { k := .str, .. }, some { k := .str, .. }, .v (.string b) => some (True, .v (.string b))
  | some { k := .slice e, .. }, some { k := .str, .. }, z => match T e, Z4q s.heap z with
   | some { k := .int .u8, .. }, some (c, b) => some (c, .v (.string b))
   | _, _ => none
  | _, _, _ => none
 | .extract x i => match s.ev x with
  | .tup cs => some (i < cs.length, (cs[i]?).getD .any)
  | _ => none
 | .field t x f => match T t, s.ev x with
  | some { k := .struct fs, .. }, .agg cs => match fs[f]? with
   | some (off, ft) => match T ft with
    | some i => some (off + i.size ≤ cs.length ∧ 0 < i.size, Z12 i (cs.drop off))
    | none => none
   | none => none
  | _, _ => none
 | .fieldAddr t x f => match T t with
  | some { k := .struct fs, .. } => match fs[f]? with
   | some (off, ft) => match T ft, s.ev x with
    | some i, .ptr id k sz j => some (i.size ≠ 0, .ptr id k sz (j + off))
    | some i, .rp cs => some (i.size ≠ 0, .rp (cs.drop off))
    | some i, .nm id k => (match Zhp s.heap id k off with | some (c, x) => some (c ∧ i.size ≠ 0, x) | none => none)
    | _, _ => none
   | none => none
  | _ => none
 | .indexAddr t x i => match T t, s.ev i with
  | some { k := .slice e, .. }, .v (.int _ n) => match T e, s.ev x with
   | some ti, .ro sz es => some (0 ≤ n ∧ n < (es.length : Int) ∧ sz = ti.size, .rp (Z2 es n.toNat))
   | some ti, .own id sz off len => some (0 ≤ n ∧ n < (len : Int) ∧ sz = ti.size, .ptr id (off + n.toNat) sz 0)
   | some ti, .nm id k => Zfb s.heap id k n ti
   | _, _ => none
  | _, _ => none
 | .index t x i => match T t, s.ev x, s.ev i with
  | some { k := .str, .. }, .v (.string b), .v (.int _ n) => some (0 ≤ n ∧ n < (b.size : Int), .v (.int .u8 (((b[n.toNat]?).getD 0).toNat : Int)))
  | _, _, _ => none
 | .load t x => match T t with
  | some i => match s.ev x with
   | .rp cs => some (i.size ≤ cs.length ∧ 0 < i.size ∧ (i.k.agg = false → i.size = 1), Z12 i cs)
   | .ptr id k sz j => some ((Zu s.heap[id]? k sz).1 ∧ j + i.size ≤ (Zu s.heap[id]? k sz).2.length ∧ 0 < i.size ∧ (i.k.agg = false → i.size = 1), Z12 i ((Zu s.heap[id]? k sz).2.drop j))
   | .nm id k => Z6i s.heap id k i
   | _ => none
  | none => none
 | .call { callee := .builtin .len, args := args, argTypes := ts } =>
  match args.toList, ts.toList with
  | [x], [t] => match T t, s.ev x with
   | some { k := .str, .. }, .v (.string b) => some (True, .v (.int .i64 (b.size : Int)))
   | some { k := .slice _, .. }, .v (.slice _ n _) => some (True, .v (.int .i64 (n : Int)))
   | some { k := .slice _, .. }, .ro _ es => some (True, .v (.int .i64 (es.length : Int)))
   | some { k := .slice _, .. }, .own _ _ _ len => some (True, .v (.int .i64 (len : Int)))
   | some { k := .slice _, .. }, .nm id k => Zd7 s.heap id k
   | _, _ => none
  | _, _ => none
 | .call { callee := .builtin .min, args := args, .. } => match args.toList with
  | [x, y] => match s.ev x, s.ev y with
   | .v (.int .i64 a), .v (.int .i64 b) => some (True, .v (.int .i64 (min a b)))
   | _, _ => none
  | _ => none
 | .call { callee := .builtin .max, args := args, .. } => match args.toList with
  | [x, y] => match s.ev x, s.ev y with
   | .v (.int .i64 a), .v (.int .i64 b) => some (True, .v (.int .i64 (max a b)))
   | _, _ => none
  | _ => none
 | .nilCheck x => match s.ev x with
  | .ptr id i sz j => some (True, .ptr id i sz j)
  | .rp cs => some (True, .rp cs)
  | .nm id k => Zf7 s.heap id k
  | _ => none
 | .makeFunc (.func f) first cap => if first.size = 0 then some (True, .fn f (cap.toList.map s.ev)) else none
 | .slice t x lo hi none =>
  match T t, s.ev x with
  | some { k := .str, .. }, .v (.string b) => match bnds (lo.map s.ev) (hi.map s.ev) b.size with
   | some (c, l, h) => some (c, .v (.string (b.extract l h)))
   | none => none
  | some { k := .slice e, .. }, .ro sz es => match bnds (lo.map s.ev) (hi.map s.ev) es.length, T e with
   | some (c, l, h), some ti => some (c ∧ sz = ti.size, .ro sz ((es.take h).drop l))
   | _, _ => none
  | some { k := .slice e, .. }, .own id sz off len => match bnds (lo.map s.ev) (hi.map s.ev) len, T e with
   | some (c, l, h), some ti => some (c ∧ sz = ti.size, .own id sz (off + l) (h - l))
   | _, _ => none
  | some { k := .slice e, .. }, .nm id k => (match T e with | some ti => Z9d s.heap id k (lo.map s.ev) (hi.map s.ev) ti | none => none)
  | _, _ => none
 | _ => none
structure Grow (w w' : World) : Prop where
 size : w.heap.size ≤ w'.heap.size
 block : ∀ b : Nat, b < w.heap.size → w'.heap[b]? = w.heap[b]?
theorem Grow.refl (w : World) : Grow w w := ⟨Nat.le_refl _, fun _ _ => rfl⟩
theorem Grow.trans {w w' w'' : World} (h : Grow w w') (h' : Grow w' w'') : Grow w w'' :=
 ⟨Nat.le_trans h.size h'.size, fun b hb => (h'.block b (Nat.lt_of_lt_of_le hb h.size)).trans (h.block b hb)⟩
theorem Grow.cell {w w' : World} (h : Grow w w') {a : Addr} {v : Value} (hc : w.cell? a = some v) : w'.cell? a = some v := by
 have hb : a.block < w.heap.size := World.block_lt_of_cell? w a hc
 unfold World.cell? at *
 rw [h.block _ hb]; exact hc
def Zg (R : World → World → Prop) (P : Program) (o : Oper) (σ : Nat → Option Blk) (F : Nat → Prop) (a : Act) (w : World) (x : AV) : Prop :=
 ∃ v, (∀ w', R w w' → (execOp a.eval o).run P w' = .ok (.value v) w') ∧ RepV σ F w x v
abbrev Z4s (P : Program) (o : Oper) (σ : Nat → Option Blk) (F : Nat → Prop) (a : Act) (w : World) (x : AV) : Prop := Zg Grow P o σ F a w x
end Go.Proofs.YtnehieeplbgaiacDoor.Eng
set_option linter.unusedVariables false
set_option linter.unusedSimpArgs false
namespace Go.Proofs.YtnehieeplbgaiacDoor.Eng
open Go
section
variable {R : World → World → Prop} {P : Program} {T : Tab} {X : Ctx} {σ : Nat → Option Blk} {F : Nat → Prop} {s : St} {a : Act} {w : World} {o : Oper} {c : Prop} {x : AV}
theorem RepV.tupv {cs : List AV} {y : Value} (h : RepV σ F w (.tup cs) y) : ∃ vs : List Value, y = .tuple vs.toArray ∧ cs.length = vs.length ∧ ∀ (j : Nat) (x : AV) (u : Value), cs[j]? = some x → vs[j]? = some u → RepV σ F w x u := by
 cases h with
 | f _ _ h => cases h
 | tup _ vs hl h => exact ⟨vs, rfl, hl, h⟩
theorem RepV.aggv {cs : List AV} {y : Value} (h : RepV σ F w (.agg cs) y) : ∃ vs : List Value, y = .agg vs.toArray ∧ cs.length = vs.length ∧ (∀ u ∈ vs, u.oneCell' = true) ∧ ∀ (j : Nat) (x : AV) (u : Value), cs[j]? = some x → vs[j]? = some u → RepV σ F w x u := by
 cases h with
 | f _ _ h => cases h
 | agg _ vs hl h1 h => exact ⟨vs, rfl, hl, h1, h⟩
theorem RepV.ptrv {id i sz j : Nat} {y : Value} (h : RepV σ F w (.ptr id i sz j) y) : ∃ g b c n, σ id = some (.at_ g b c n) ∧ y = .pointer (some ⟨g, (b + i) * sz + j, none⟩) := by
 cases h with
 | f _ _ h => cases h
 | ptr _ _ _ _ g b c n h => exact ⟨g, b, c, n, h, rfl⟩
theorem RepV.rpv {cs : List AV} {y : Value} (h : RepV σ F w (.rp cs) y) : ∃ (ad : Addr) (V : Nat → Value), y = .pointer (some ad) ∧ F ad.block ∧
  (∀ j x, cs[j]? = some x → w.cell? (ad.add j) = some (V j) ∧ (V j).oneCell' = true) ∧ ∀ j x, cs[j]? = some x → RepF F w x (V j) := by
 cases h with
 | f _ _ h =>
  cases h with
  | rp _ ad V hF h1 h2 => exact ⟨ad, V, rfl, hF, h1, h2⟩
theorem Zdl (hr : RepAt X σ F s a w) {y : Operand} (ho : o.op = .move y ∨ o.op = .assign y) : Zg R P o σ F a w (s.ev y) := by
 refine ⟨a.eval y, fun w' _ => ?_, hr.ev y⟩
 rcases ho with ho | ho <;> simp [execOp, ho]
theorem val_bin (hr : RepAt X σ F s a w) {op : BinOp} {t t' : Nat} {x y : Operand} (ho : o.op = .binOp op t x y t') {u v r : Value} (hx : s.ev x = .v u) (hy : s.ev y = .v v) (he : Z6q op u v = some (c, r)) (hc : c) : Zg R P o σ F a w (.v r) := by
 have h1 : a.eval x = u := RepV.val (hx ▸ hr.ev x)
 have h2 : a.eval y = v := RepV.val (hy ▸ hr.ev y)
 refine ⟨r, fun w' _ => ?_, .f _ _ (.v _)⟩
 have hg : (eqGuard op t x y u v).run P w' = .ok () w' := by
  unfold Z6q at he
  split at he
  ·cases op <;> simp [eqGuard]
  ·cases op <;> simp [eqGuard]
  ·cases he
 simp [execOp, ho, h1, h2, hg, Zjs he hc]
theorem Z4k {t : Nat} (hk : P.underlying t = some .bool) (u v : Bool) : (Op.equal t (.bool u) (.bool v)).run P w = .ok (u == v) w := by
 have h : ∀ d, (Op.equalIn (d + 1) t (.bool u) (.bool v)).run P w = .ok (u == v) w := fun d => by
  simp only [Op.equalIn, Sem.run_bind, run_underlying hk, Result.andThen_ok, Sem.run_pure]
 exact h 9999
theorem Zfu (hT : Zh P T) (hr : RepAt X σ F s a w) {op : BinOp} {t t' : Nat} {x y : Operand} (ho : o.op = .binOp op t x y t') {u v : Bool} (hx : s.ev x = .v (.bool u)) (hy : s.ev y = .v (.bool v)) {n m : Nat} {z : Value} (ht : T t = some ⟨.bool, n, m, z⟩) :
  (op = .eql → Zg R P o σ F a w (.v (.bool (u == v)))) ∧ (op = .neq → Zg R P o σ F a w (.v (.bool (!(u == v))))) := by
 have h1 : a.eval x = .bool u := RepV.val (hx ▸ hr.ev x)
 have h2 : a.eval y = .bool v := RepV.val (hy ▸ hr.ev y)
 have hk : P.underlying t = some .bool := (hT _ _ ht).kind
 refine ⟨fun e => ⟨_, fun w' _ => ?_, .f _ _ (.v _)⟩, fun e => ⟨_, fun w' _ => ?_, .f _ _ (.v _)⟩⟩
 ·subst e
  simp only [execOp, ho, h1, h2, eqGuard, binOp, Sem.run_bind, Z4k hk, Result.andThen_ok, Sem.run_pure]
  rfl
 ·subst e
  simp only [execOp, ho, h1, h2, eqGuard, binOp, Sem.run_bind, Z4k hk, Result.andThen_ok, Sem.run_pure]
  rfl
theorem val_not (hr : RepAt X σ F s a w) {t : Nat} {x : Operand} (ho : o.op = .unOp .not t x) {b : Bool} (hx : s.ev x = .v (.bool b)) : Zg R P o σ F a w (.v (.bool !b)) := by
 have h1 : a.eval x = .bool b := RepV.val (hx ▸ hr.ev x)
 exact ⟨_, fun w' _ => by simp [execOp, ho, h1, Op.unary], .f _ _ (.v _)⟩
theorem val_neg (hr : RepAt X σ F s a w) {t : Nat} {x : Operand} (ho : o.op = .unOp .neg t x) {n : Int} (hx : s.ev x = .v (.int .i64 n)) (hc : InR (-n)) : Zg R P o σ F a w (.v (.int .i64 (-n))) := by
 have h1 : a.eval x = .int .i64 n := RepV.val (hx ▸ hr.ev x)
 exact ⟨_, fun w' _ => by simp [execOp, ho, h1, Op.unary, Op.intArith, IntWalk.i64_in _ hc], .f _ _ (.v _)⟩
theorem Zcp (hr : RepAt X σ F s a w) {x : Operand} {i : Nat} (ho : o.op = .extract x i) {cs : List AV} (hx : s.ev x = .tup cs) (hc : i < cs.length) : Zg R P o σ F a w ((cs[i]?).getD .any) := by
 obtain ⟨vs, h1, hl, h2⟩ := RepV.tupv (hx ▸ hr.ev x)
 have hi : i < vs.length := by omega
 refine ⟨vs[i], fun w' _ => ?_, ?_⟩
 ·simp [execOp, ho, h1, Instr.extract, hi]
 ·rw [List.getElem?_eq_getElem hc]
  exact h2 i _ _ (List.getElem?_eq_getElem hc) (List.getElem?_eq_getElem hi)
theorem Zcr (hT : Zh P T) (hr : RepAt X σ F s a w) {src dst : Nat} {x : Operand} (ho : o.op = .convert src dst x) {k0 k1 k : IntKind} {n : Int} (hx : s.ev x = .v (.int k1 n)) {m m' p p' : Nat} {z z' : Value}
  (hs : T src = some ⟨.int k0, m, p, z⟩) (hd : T dst = some ⟨.int k, m', p', z'⟩) : Zg R P o σ F a w (.v (.int k (k.wrap n))) := by
 have h1 : a.eval x = .int k1 n := RepV.val (hx ▸ hr.ev x)
 have hks : P.underlying src = some (.int k0) := (hT _ _ hs).kind
 have hkd : P.underlying dst = some (.int k) := (hT _ _ hd).kind
 exact ⟨_, fun w' _ => by simp [execOp, ho, h1, convert, run_underlying hks, run_underlying hkd, Conv.intToInt], .f _ _ (.v _)⟩
theorem Zcq (hT : Zh P T) (hr : RepAt X σ F s a w) {src dst : Nat} {x : Operand} (ho : o.op = .convert src dst x) {b : ByteArray} (hx : s.ev x = .v (.string b)) {m m' p p' : Nat} {z z' : Value}
  (hs : T src = some ⟨.str, m, p, z⟩) (hd : T dst = some ⟨.str, m', p', z'⟩) : Zg R P o σ F a w (.v (.string b)) := by
 have h1 : a.eval x = .string b := RepV.val (hx ▸ hr.ev x)
 have hks : P.underlying src = some .string := (hT _ _ hs).kind
 have hkd : P.underlying dst = some .string := (hT _ _ hd).kind
 exact ⟨_, fun w' _ => by simp [execOp, ho, h1, convert, run_underlying hks, run_underlying hkd], .f _ _ (.v _)⟩
end
end Go.Proofs.YtnehieeplbgaiacDoor.Eng
set_option linter.unusedVariables false
set_option linter.unusedSimpArgs false
namespace Go.Proofs.YtnehieeplbgaiacDoor.Eng
open Go
theorem Zan (ad : Addr) (m j : Nat) : (ad.add m).add j = ad.add (m + j) := by
 unfold Addr.add
 by_cases h1 : m = 0 <;> by_cases h2 : j = 0 <;> simp [h1, h2, Nat.add_assoc]
theorem Zl (g o j : Nat) : (⟨g, o, none⟩ : Addr).add j = ⟨g, o + j, none⟩ := by
 unfold Addr.add; split <;> simp_all
section
variable {P : Program} {T : Tab} {X : Ctx} {σ : Nat → Option Blk} {F : Nat → Prop} {s : St} {a : Act} {w : World} {o : Oper} {c : Prop} {x : AV}
theorem Z4w {t : Nat} {i : TI} (hT : TIOk P t i) {y : Operand} (ho : o.op = .load t y) {ad : Addr} (ha : a.eval y = .pointer (some ad)) (cs : List AV) (V : Nat → Value) (hlen : i.size ≤ cs.length) (h0 : 0 < i.size) (h1 : i.k.agg = false → i.size = 1)
  (hcell : ∀ j x, cs[j]? = some x → w.cell? (ad.add j) = some (V j) ∧ (V j).oneCell' = true) (hr : ∀ j x, cs[j]? = some x → RepV σ F w x (V j)) : Z4s P o σ F a w (Z12 i cs) := by
 have hget : ∀ j, j < i.size → ∃ x, cs[j]? = some x := fun j hj => ⟨_, List.getElem?_eq_getElem (by omega)⟩
 unfold Z4s Zg Z12
 by_cases hk : i.k.agg = true
 ·rw [if_pos hk]
  let vs := (List.range i.size).map V
  have hvl : vs.length = i.size := by simp [vs]
  have hcl : ∀ w', Grow w w' → (loadCells ad i.size).run P w' = .ok vs.toArray w' := fun w' hw' => by
   have := run_loadCells_list (P := P) (w := w') ad vs (fun j v hj => by
    have hj' : j < i.size := by have := (List.getElem?_eq_some_iff.1 hj).1; omega
    obtain ⟨x, hx⟩ := hget j hj'
    have hv : V j = v := by simpa [vs, hj'] using hj
    rw [← hv]; exact hw'.cell (hcell j x hx).1)
   rwa [hvl] at this
  refine ⟨.agg vs.toArray, fun w' hw' => ?_, .agg _ vs (by simp [hvl, hlen]) (fun u hu => ?_) (fun j x u hx hu => ?_)⟩
  ·simp [execOp, ho, ha, Instr.loadAt, Instr.sureAddr, loadVar, hT.agg_run, hT.size_run, hk, hcl w' hw']
  ·obtain ⟨j, hj, rfl⟩ := List.mem_map.1 hu
   obtain ⟨x, hx⟩ := hget j (by simpa using hj)
   exact (hcell j x hx).2
  ·have hj' : j < i.size := by have := (List.getElem?_eq_some_iff.1 hu).1; omega
   have hv : V j = u := by simpa [vs, hj'] using hu
   rw [← hv]
   exact hr j x (by simpa [List.getElem?_take, hj'] using hx)
 ·have hk' : i.k.agg = false := by simpa using hk
  rw [if_neg hk]
  obtain ⟨x, hx⟩ := hget 0 h0
  have hc := (hcell 0 x hx).1
  rw [show ad.add 0 = ad by simp [Addr.add]] at hc
  refine ⟨V 0, fun w' hw' => ?_, ?_⟩
  ·simp [execOp, ho, ha, Instr.loadAt, Instr.sureAddr, loadVar, hT.agg_run, hk', load, Sem.run, hw'.cell hc]
  ·rw [hx]; exact hr 0 x hx
theorem Zcm {t : Nat} {i : TI} (hT : TIOk P t i) (hr : RepAt X σ F s a w) {y : Operand} (ho : o.op = .load t y) {cs : List AV} (hy : s.ev y = .rp cs) (hlen : i.size ≤ cs.length) (h0 : 0 < i.size) (h1 : i.k.agg = false → i.size = 1) : Z4s P o σ F a w (Z12 i cs) := by
 obtain ⟨ad, V, he, hF, h2, h3⟩ := RepV.rpv (hy ▸ hr.ev y)
 exact Z4w hT ho he cs V hlen h0 h1 h2 (fun j x hx => .f _ _ (h3 j x hx))
theorem Zbk (hr : HRep σ F w s.heap) {id k sz : Nat} {g b c n : Nat} (hs : σ id = some (.at_ g b c n)) (h : (Zu s.heap[id]? k sz).1) :
  ∃ V : Nat → Value, ∀ j x, (Zu s.heap[id]? k sz).2[j]? = some x → w.cell? ⟨g, (b + k) * sz + j, none⟩ = some (V j) ∧ (V j).oneCell' = true ∧ RepV σ F w x (V j) := by
 cases ho : s.heap[id]? with
 | none => rw [ho] at h; exact h.elim
 | some ob =>
  rw [ho] at h
  have hob := hr.obj id ob ho
  cases ob with
  | dead => exact h.elim
  | mapo es => exact h.elim
  | iter last es => exact h.elim
  | lin _ _ _ _ _ _ _ => exact h.elim
  | box e cs =>
   obtain ⟨g', vs, hs', hh, hl, h1, h2⟩ := hob
   rw [hs] at hs'
   injection hs' with hs'
   injection hs' with e1 e2 e3 e4
   subst e1 e2 e3 e4
   simp only [Zu] at h ⊢
   subst h
   refine ⟨fun j => (vs[j]?).getD undef, fun j x hx => ?_⟩
   have hj : j < vs.length := by have := (List.getElem?_eq_some_iff.1 hx).1; omega
   simp only [List.getElem?_eq_getElem hj, Option.getD_some]
   refine ⟨?_, h1 _ (List.getElem_mem hj), h2 j x _ hx (List.getElem?_eq_getElem hj)⟩
   simp [World.cell?, hh, hj]
  | row e sz' es =>
   simp only [Zu] at h ⊢
   obtain ⟨hk, rfl⟩ := h
   rcases hob with ⟨hs', _⟩ | ⟨g', b', c', cur, hs', _, _, hh, _, _, h2⟩
   ·rw [hs] at hs'; cases hs'
   ·rw [hs] at hs'
    injection hs' with hs'
    injection hs' with e1 e2 e3 e4
    subst e1 e2 e3
    refine ⟨fun j => (cur[(b + k) * sz + j]?).getD undef, fun j x hx => ?_⟩
    unfold Z2 at hx
    rw [List.getElem?_eq_getElem hk] at hx
    obtain ⟨u, hu, h3, h4⟩ := h2 k _ j x (List.getElem?_eq_getElem hk) hx
    simp only [hu, Option.getD_some]
    exact ⟨by simp [World.cell?, hh, hu], h3, .f _ _ h4⟩
theorem Z6e {t : Nat} {i : TI} (hT : TIOk P t i) (hr : RepAt X σ F s a w) {y : Operand} (ho : o.op = .load t y) {id k sz j : Nat} (hy : s.ev y = .ptr id k sz j) (h : (Zu s.heap[id]? k sz).1) (hlen : j + i.size ≤ (Zu s.heap[id]? k sz).2.length) (h0 : 0 < i.size)
  (h1 : i.k.agg = false → i.size = 1) : Z4s P o σ F a w (Z12 i ((Zu s.heap[id]? k sz).2.drop j)) := by
 obtain ⟨g, b, c, n, hs, he⟩ := RepV.ptrv (hy ▸ hr.ev y)
 obtain ⟨V, hV⟩ := Zbk hr.heap hs h
 refine Z4w hT ho he _ (fun q => V (j + q)) (by rw [List.length_drop]; omega) h0 h1 (fun q x hx => ?_) (fun q x hx => ?_)
 ·rw [List.getElem?_drop] at hx
  obtain ⟨h2, h3, _⟩ := hV _ x hx
  refine ⟨?_, h3⟩
  rw [Zl, Nat.add_assoc]
  exact h2
 ·rw [List.getElem?_drop] at hx
  exact (hV _ x hx).2.2
theorem Zj2 {t : Nat} {i : TI} (hT : TIOk P t i) (cs : List AV) (vs : List Value) (hl : cs.length = vs.length) (h1 : ∀ u ∈ vs, u.oneCell' = true) (h : ∀ (j : Nat) (x : AV) (u : Value), cs[j]? = some x → vs[j]? = some u → RepV σ F w x u) (off : Nat)
  (hb : off + i.size ≤ cs.length) (h0 : 0 < i.size) : ∃ v, (∀ w', (part t vs.toArray off).run P w' = .ok v w') ∧ RepV σ F w (Z12 i (cs.drop off)) v := by
 unfold Z12
 by_cases hk : i.k.agg = true
 ·rw [if_pos hk]
  refine ⟨.agg ((vs.drop off).take i.size).toArray, fun w' => ?_, .agg _ _ (by simp; omega) (fun u hu => h1 u (List.mem_of_mem_drop (List.mem_of_mem_take hu))) (fun j x u hx hu => ?_)⟩
  ·simp [part, hT.agg_run, hT.size_run, hk, List.extract_toArray, List.extract_eq_take_drop]
  ·rw [List.getElem?_take] at hx hu
   split at hx
   ·rename_i hj
    rw [if_pos hj] at hu
    rw [List.getElem?_drop] at hx hu
    exact h _ x u hx hu
   ·cases hx
 ·have hk' : i.k.agg = false := by simpa using hk
  rw [if_neg hk]
  have ho : off < vs.length := by omega
  refine ⟨vs[off], fun w' => ?_, ?_⟩
  ·simp [part, hT.agg_run, hk', ho]
  ·rw [List.getElem?_drop, Nat.add_zero, List.getElem?_eq_getElem (by omega)]
   exact h off _ _ (List.getElem?_eq_getElem (by omega)) (List.getElem?_eq_getElem ho)
theorem fold_push : ∀ (ns : List Int) (s : ByteArray), ns.foldl (fun r n => r.push (UInt8.ofNat n.toNat)) s = ⟨s.data ++ (ns.map fun n => UInt8.ofNat n.toNat).toArray⟩
 | [], s => by cases s; simp
 | n :: ns, s => by
  rw [List.foldl_cons, fold_push ns]
  cases s
  simp [ByteArray.push]
def byteN : List AV → Int
 | [.v (.int .u8 n)] => n
 | _ => 0
theorem byteL_map : ∀ (es : List (List AV)) (l : List UInt8), byteL es = some l → l = (es.map byteN).map (fun n => UInt8.ofNat n.toNat) ∧ ∀ e ∈ es, e = [.v (.int .u8 (byteN e))]
 | [], l, h => by simp only [byteL] at h; cases h; exact ⟨rfl, fun e he => by cases he⟩
 | e :: r, l, h => by
  simp only [byteL] at h
  split at h
  ·rename_i b q hb hq
   cases h
   obtain ⟨h1, h2⟩ := byteL_map r q hq
   have he : e = [.v (.int .u8 (byteN e))] ∧ b = UInt8.ofNat (byteN e).toNat := by
    unfold byteE at hb
    split at hb
    ·cases hb; exact ⟨rfl, rfl⟩
    ·cases hb
   refine ⟨by rw [List.map_cons, List.map_cons, ← h1, he.2], fun x hx => ?_⟩
   rcases List.mem_cons.1 hx with rfl | hx
   ·exact he.1
   ·exact h2 x hx
  ·cases h
theorem bytes_run {w' : World} {ad : Addr} {len cap : Nat} {es : List (List AV)} {l : List UInt8} (hb : byteL es = some l) (hl : es.length = len)
  (hc : ∀ (i : Nat) (e : List AV) (x : AV), es[i]? = some e → e[0]? = some x → ∃ u, w'.cell? (ad.add i) = some u ∧ RepF F w x u) : (Conv.bytesToString (.slice (some ad) len cap)).run P w' = .ok (.string (bstr l)) w' := by
 obtain ⟨h1, h2⟩ := byteL_map es l hb
 have hload : (loadCells ad len).run P w' = .ok ((es.map byteN).map (Value.int .u8)).toArray w' := by
  have := run_loadCells_list (P := P) (w := w') ad ((es.map byteN).map (Value.int .u8)) (fun j v hj => by
   rw [List.getElem?_map, List.getElem?_map] at hj
   cases hej : es[j]? with
   | none => rw [hej] at hj; cases hj
   | some e =>
    rw [hej] at hj
    cases hj
    have he := h2 e (List.mem_of_getElem? hej)
    obtain ⟨u, h3, h4⟩ := hc j e (.v (.int .u8 (byteN e))) hej (by rw [he]; rfl)
    cases h4
    exact h3)
  simpa [hl] using this
 rw [run_bytesToString w' ad len cap _ hload, fold_push, h1]
 have e : ByteArray.empty.data = #[] := rfl
 rw [e, Array.empty_append]
 rfl
theorem Zeu {T : Tab} (hT : Zh P T) (hr : RepAt X σ F s a w) {src dst e : Nat} {x : Operand} (ho : o.op = .convert src dst x) {m p m' p' m2 p2 : Nat} {z z' z2 : Value}
  (hs : T src = some ⟨.slice e, m, p, z⟩) (hd : T dst = some ⟨.str, m', p', z'⟩) (he : T e = some ⟨.int .u8, m2, p2, z2⟩) {c : Prop} {b : ByteArray} (hb : Z4q s.heap (s.ev x) = some (c, b)) (hc : c) : Z4s P o σ F a w (.v (.string b)) := by
 have hks : P.underlying src = some (.slice e) := (hT _ _ hs).kind
 have hkd : P.underlying dst = some .string := (hT _ _ hd).kind
 have hke : P.underlying e = some (.int .u8) := (hT _ _ he).kind
 have hv := hr.ev x
 have fin : ∀ (A : Option Addr) (l k : Nat), a.eval x = .slice A l k → (∀ w', Grow w w' → (Conv.bytesToString (.slice A l k)).run P w' = .ok (.string b) w') → Z4s P o σ F a w (.v (.string b)) := by
  intro A l k hx hrun
  exact ⟨.string b, fun w' hg => by simp [execOp, ho, hx, run_convert_bytes_string w' src dst e A l k hks hke hkd, hrun w' hg], .f _ _ (.v _)⟩
 unfold Z4q at hb
 split at hb
 ·rename_i hx
  cases hb
  rw [hx] at hv
  exact fin none 0 0 (RepV.val hv) (fun w' _ => by simp [Conv.bytesToString]; rfl)
 ·rename_i sz es hx
  rw [hx] at hv
  split at hb
  ·rename_i h1
   subst h1
   obtain ⟨l, hl, h2⟩ := Option.map_eq_some_iff.1 hb
   cases h2
   cases hv with
   | f _ _ hv =>
    generalize hy : a.eval x = y at hv
    cases hv with
    | nil0 _ k A =>
     simp only [byteL] at hl
     cases hl
     refine fin A 0 k hy (fun w' _ => ?_)
     cases A with
     | none => simp [Conv.bytesToString]; rfl
     | some ad => exact bytes_run (F := F) (w := w) (es := []) rfl rfl (fun i e x hi => by simp at hi)
    | ro _ n k _ ad V hn hk hF hl2 hcell hrr =>
     refine fin (some ad) n k hy (fun w' hg => bytes_run (F := F) (w := w) hl hn (fun i cs q hi hq => ?_))
     obtain ⟨h3, h4⟩ := hcell i cs 0 q hi hq
     refine ⟨V i 0, ?_, hrr i cs 0 q hi hq⟩
     rw [← h3, Nat.mul_one, Nat.add_zero]
     exact World.cell?_of_block (by rw [Z2j]; exact hg.block _ (hr.heap.flt _ hF))
  ·cases hb
 ·rename_i id sz off len hx
  rw [hx] at hv
  split at hb
  ·rename_i e' sz' es hq
   split at hb
   ·rename_i h1
    obtain ⟨rfl, rfl⟩ := h1
    obtain ⟨l, hl, h2⟩ := Option.map_eq_some_iff.1 hb
    cases h2
    have hob := hr.heap.obj id _ hq
    have hlen : ((es.drop off).take len).length = len := by rw [List.length_take, List.length_drop]; omega
    generalize hy : a.eval x = y at hv
    have nilc : len = 0 → ∀ A k, y = .slice A 0 k → Z4s P o σ F a w (.v (.string (bstr l))) := by
     intro h0 A k hyk
     subst h0
     simp only [List.take_zero, byteL] at hl
     cases hl
     refine fin A 0 k (hy.trans hyk) (fun w' _ => ?_)
     cases A with
     | none => simp [Conv.bytesToString]; rfl
     | some ad => exact bytes_run (F := F) (w := w) (es := []) rfl rfl (fun i e x hi => by simp at hi)
    cases hv with
    | f _ _ hv => cases hv
    | own0 _ _ _ => exact nilc rfl none 0 rfl
    | ownz _ _ _ g b' c' n' A _ _ _ => exact nilc rfl A 0 rfl
    | own _ _ _ _ g b' c' n' hσ hn hk =>
     rcases hob with ⟨h3, _⟩ | ⟨g2, b2, c2, cur, h3, _, _, h4, _, _, h5⟩
     ·rw [hσ] at h3; cases h3
     ·rw [hσ] at h3
      injection h3 with h3
      injection h3 with e1 e2 e3 e4
      subst e1 e2 e3
      refine fin (some ⟨g, (b' + off) * 1, none⟩) len (c' - off) hy (fun w' hg => bytes_run (F := F) (w := w) hl hlen (fun i cs q hi hq' => ?_))
      rw [List.getElem?_take] at hi
      split at hi
      ·rw [List.getElem?_drop] at hi
       obtain ⟨u, h6, _, h7⟩ := h5 (off + i) cs 0 q hi hq'
       refine ⟨u, ?_, h7⟩
       have hlt := (hr.heap.lt _ _ (.at hσ)).1
       rw [Zl]
       have e : (b' + off) * 1 + i = (b' + (off + i)) * 1 + 0 := by omega
       simp only [World.cell?, hg.block g hlt, h4]
       rw [e]
       simpa using h6
      ·cases hi
   ·cases hb
  ·cases hb
 ·cases hb
end
end Go.Proofs.YtnehieeplbgaiacDoor.Eng
set_option linter.unusedVariables false
set_option linter.unusedSimpArgs false
namespace Go.Proofs.YtnehieeplbgaiacDoor.Eng
open Go
section
variable {R : World → World → Prop} {P : Program} {T : Tab} {X : Ctx} {σ : Nat → Option Blk} {F : Nat → Prop} {s : St} {a : Act} {w : World} {o : Oper} {c : Prop} {x : AV}
theorem Z68 {fs : List (Nat × Nat)} {ar : Array Field} (h : ar.toList.map (fun f => (f.offset, f.type)) = fs) {f off ft : Nat} (hf : fs[f]? = some (off, ft)) : ∃ fd : Field, ar[f]? = some fd ∧ fd.offset = off ∧ fd.type = ft := by
 subst h
 rw [List.getElem?_map, Option.map_eq_some_iff] at hf
 obtain ⟨fd, h1, h2⟩ := hf
 simp only [Prod.mk.injEq] at h2
 exact ⟨fd, by simpa using h1, h2.1, h2.2⟩
theorem Zft (hT : Zh P T) (hr : RepAt X σ F s a w) {t f : Nat} {y : Operand} (ho : o.op = .field t y f) {cs : List AV} (hy : s.ev y = .agg cs) {fs : List (Nat × Nat)} {m p : Nat} {z : Value} (ht : T t = some ⟨.struct fs, m, p, z⟩)
  {off ft : Nat} (hf : fs[f]? = some (off, ft)) {i : TI} (hi : T ft = some i) (hb : off + i.size ≤ cs.length) (h0 : 0 < i.size) : Zg R P o σ F a w (Z12 i (cs.drop off)) := by
 obtain ⟨vs, he, hl, h1, h2⟩ := RepV.aggv (hy ▸ hr.ev y)
 obtain ⟨ar, hu, hm⟩ := (hT _ _ ht).kind
 obtain ⟨fd, hfd, rfl, rfl⟩ := Z68 hm hf
 obtain ⟨v, hv, hrep⟩ := Zj2 (P := P) (hT _ _ hi) cs vs hl h1 h2 fd.offset hb h0
 refine ⟨v, fun w' _ => ?_, hrep⟩
 simp [execOp, ho, he, Instr.field, run_underlying hu, hfd, asAgg, hv]
theorem Z54 (hT : Zh P T) (hr : RepAt X σ F s a w) {t f : Nat} {y : Operand} (ho : o.op = .fieldAddr t y f) {fs : List (Nat × Nat)} {m p : Nat} {z : Value} (ht : T t = some ⟨.struct fs, m, p, z⟩)
  {off ft : Nat} (hf : fs[f]? = some (off, ft)) {i : TI} (hi : T ft = some i) (h0 : i.size ≠ 0) :
  (∀ id k sz j, s.ev y = .ptr id k sz j → Zg R P o σ F a w (.ptr id k sz (j + off))) ∧ (∀ cs, s.ev y = .rp cs → Zg R P o σ F a w (.rp (cs.drop off))) := by
 obtain ⟨ar, hu, hm⟩ := (hT _ _ ht).kind
 obtain ⟨fd, hfd, rfl, rfl⟩ := Z68 hm hf
 have run : ∀ ad : Addr, a.eval y = .pointer (some ad) → ∀ w', R w w' → (execOp a.eval o).run P w' = .ok (.value (.pointer (some (ad.add fd.offset)))) w' := fun ad he w' _ => by
  simp [execOp, ho, he, Instr.fieldAt, run_underlying hu, hfd, Instr.sureAddr, fieldPlace, (hT _ _ hi).size_run, h0]
 refine ⟨fun id k sz j hy => ?_, fun cs hy => ?_⟩
 ·obtain ⟨g, b, c, n, hs, he⟩ := RepV.ptrv (hy ▸ hr.ev y)
  refine ⟨_, run _ he, ?_⟩
  rw [Zl, Nat.add_assoc]
  exact .ptr id k sz _ g b c n hs
 ·obtain ⟨ad, V, he, hF, h2, h3⟩ := RepV.rpv (hy ▸ hr.ev y)
  refine ⟨_, run _ he, .f _ _ (.rp _ _ (fun j => V (fd.offset + j)) (by rw [Z2j]; exact hF) (fun j x hx => ?_) (fun j x hx => ?_))⟩
  ·rw [List.getElem?_drop] at hx
   rw [Zan]
   exact h2 _ x hx
  ·rw [List.getElem?_drop] at hx
   exact h3 _ x hx
theorem RepV.rov {sz : Nat} {es : List (List AV)} {y : Value} (h : RepV σ F w (.ro sz es) y) : ∃ A c, y = .slice A es.length c ∧ es.length ≤ c ∧ (es ≠ [] → ∃ (ad : Addr) (V : Nat → Nat → Value), A = some ad ∧ F ad.block ∧ (∀ cs ∈ es, cs.length = sz) ∧
  (∀ i cs j x, es[i]? = some cs → cs[j]? = some x → w.cell? (ad.add (i * sz + j)) = some (V i j) ∧ (V i j).oneCell' = true) ∧ ∀ i cs j x, es[i]? = some cs → cs[j]? = some x → RepF F w x (V i j)) := by
 cases h with
 | f _ _ h =>
  cases h with
  | nil0 _ c a => exact ⟨a, c, rfl, Nat.zero_le _, fun h => absurd rfl h⟩
  | ro _ n c _ ad V hn hc hF hl h1 h2 => subst hn; exact ⟨some ad, c, rfl, hc, fun _ => ⟨ad, V, rfl, hF, hl, h1, h2⟩⟩
theorem RepV.ownv {id sz off len : Nat} {y : Value} (h : RepV σ F w (.own id sz off len) y) : (σ id = some .nil ∧ off = 0 ∧ len = 0 ∧ y = .slice none 0 0) ∨
  ∃ g b c n, σ id = some (.at_ g b c n) ∧ off + len ≤ n ∧ n ≤ c ∧ (y = .slice (some ⟨g, (b + off) * sz, none⟩) len (c - off) ∨ (len = 0 ∧ off = n ∧ n = c ∧ ∃ A, y = .slice A 0 0)) := by
 cases h with
 | f _ _ h => cases h
 | own0 _ _ h => exact .inl ⟨h, rfl, rfl, rfl⟩
 | own _ _ _ _ g b c n h hn hc => exact .inr ⟨g, b, c, n, h, hn, hc, .inl rfl⟩
 | ownz _ _ _ g b c n A h hn hc => exact .inr ⟨g, b, c, n, h, by omega, by omega, .inr ⟨rfl, hn, hc, A, rfl⟩⟩
theorem Zcn (hT : Zh P T) (hr : RepAt X σ F s a w) {t : Nat} {y z : Operand} (ho : o.op = .indexAddr t y z) {k : IntKind} {n : Int} (hz : s.ev z = .v (.int k n)) {e m p : Nat} {zv : Value} (ht : T t = some ⟨.slice e, m, p, zv⟩) {ti : TI} (hi : T e = some ti)
  {sz : Nat} {es : List (List AV)} (hy : s.ev y = .ro sz es) (h0 : 0 ≤ n) (h1 : n < (es.length : Int)) (hsz : sz = ti.size) : Zg R P o σ F a w (.rp (Z2 es n.toNat)) := by
 have h2 : a.eval z = .int k n := RepV.val (hz ▸ hr.ev z)
 obtain ⟨A, c, he, hc, hx⟩ := RepV.rov (hy ▸ hr.ev y)
 obtain ⟨ad, V, rfl, hF, hl, hcell, hrep⟩ := hx (fun e => by subst e; simp at h1; omega)
 have hu : P.underlying t = some (.slice e) := (hT _ _ ht).kind
 have hlt : n.toNat < es.length := by omega
 have hrow : es[n.toNat]? = some (Z2 es n.toNat) := by simp [Z2, List.getElem?_eq_getElem hlt]
 refine ⟨.pointer (some (ad.add (n.toNat * sz))), fun w' _ => ?_, .f _ _ (.rp _ _ (V n.toNat) (by rw [Z2j]; exact hF) (fun j x hx => ?_) (fun j x hx => hrep _ _ j x hrow hx))⟩
 ·simp [execOp, ho, he, h2, Instr.indexAt, asIntOf, run_underlying hu, h0, h1, (hT _ _ hi).size_run, hsz]
 ·rw [Zan]
  exact hcell _ _ j x hrow hx
theorem Zau (hT : Zh P T) (hr : RepAt X σ F s a w) {t : Nat} {y z : Operand} (ho : o.op = .indexAddr t y z) {k : IntKind} {n : Int} (hz : s.ev z = .v (.int k n)) {e m p : Nat} {zv : Value} (ht : T t = some ⟨.slice e, m, p, zv⟩) {ti : TI} (hi : T e = some ti)
  {id sz off len : Nat} (hy : s.ev y = .own id sz off len) (h0 : 0 ≤ n) (h1 : n < (len : Int)) (hsz : sz = ti.size) : Zg R P o σ F a w (.ptr id (off + n.toNat) sz 0) := by
 have h2 : a.eval z = .int k n := RepV.val (hz ▸ hr.ev z)
 have hu : P.underlying t = some (.slice e) := (hT _ _ ht).kind
 rcases RepV.ownv (hy ▸ hr.ev y) with ⟨_, _, rfl, _⟩ | ⟨g, b, c, q, hs, hn, hc, he | ⟨rfl, _⟩⟩
 ·simp at h1; omega
 ·refine ⟨.pointer (some ⟨g, (b + (off + n.toNat)) * sz + 0, none⟩), fun w' _ => ?_, .ptr id _ sz 0 g b c q hs⟩
  simp [execOp, ho, he, h2, Instr.indexAt, asIntOf, run_underlying hu, h0, h1, (hT _ _ hi).size_run, ← hsz, Zl, Nat.add_mul, Nat.add_assoc]
 ·simp at h1; omega
theorem Zat (hT : Zh P T) (hr : RepAt X σ F s a w) {t : Nat} {y z : Operand} (ho : o.op = .index t y z) {k : IntKind} {n : Int} (hz : s.ev z = .v (.int k n)) {m p : Nat} {zv : Value} (ht : T t = some ⟨.str, m, p, zv⟩)
  {b : ByteArray} (hy : s.ev y = .v (.string b)) (h0 : 0 ≤ n) (h1 : n < (b.size : Int)) : Zg R P o σ F a w (.v (.int .u8 (((b[n.toNat]?).getD 0).toNat : Int))) := by
 have h2 : a.eval z = .int k n := RepV.val (hz ▸ hr.ev z)
 have h3 : a.eval y = .string b := RepV.val (hy ▸ hr.ev y)
 have hu : P.underlying t = some .string := (hT _ _ ht).kind
 have hlt : n.toNat < b.size := by omega
 have hget : b[n.toNat]? = some (b[n.toNat]'hlt) := getElem?_pos b n.toNat hlt
 refine ⟨_, fun w' _ => ?_, .f _ _ (.v _)⟩
 simp [execOp, ho, h2, h3, Instr.index, asIntOf, run_underlying hu, h0, hget]
end
end Go.Proofs.YtnehieeplbgaiacDoor.Eng
set_option linter.unusedVariables false
set_option linter.unusedSimpArgs false
namespace Go.Proofs.YtnehieeplbgaiacDoor.Eng
open Go
section
variable {R : World → World → Prop} {P : Program} {T : Tab} {X : Ctx} {σ : Nat → Option Blk} {F : Nat → Prop} {s : St} {a : Act} {w : World} {o : Oper} {c : Prop} {x : AV}
theorem Z42 {ts : Array Nat} {args : Array Operand} (ho : o.op = .call { callee := .builtin .len, args := args, argTypes := ts }) {y : Operand} {t : Nat} (ha : args.toList = [y]) (ht : ts.toList = [t]) {n : Int}
  (h : ∃ d, P.underlying t = some d ∧ ((d = .string ∧ ∃ b : ByteArray, a.eval y = .string b ∧ n = b.size) ∨ (∃ e, d = .slice e ∧ ∃ A m c, a.eval y = .slice A m c ∧ n = (m : Nat)))) : Zg R P o σ F a w (.v (.int .i64 n)) := by
 have ha' : args = #[y] := by rw [← Array.toArray_toList (xs := args), ha]
 have ht' : ts = #[t] := by rw [← Array.toArray_toList (xs := ts), ht]
 subst ha' ht'
 obtain ⟨d, hu, ⟨rfl, b, he, rfl⟩ | ⟨e, rfl, A, m, c, he, rfl⟩⟩ := h
 ·exact ⟨_, fun w' _ => by simp [execOp, ho, resolve, invoke, builtin, Builtin.len_, run_underlying hu, he, goInt], .f _ _ (.v _)⟩
 ·exact ⟨_, fun w' _ => by simp [execOp, ho, resolve, invoke, builtin, Builtin.len_, run_underlying hu, he, goInt], .f _ _ (.v _)⟩
theorem min_run {ts : Array Nat} {args : Array Operand} (ho : o.op = .call { callee := .builtin .min, args := args, argTypes := ts }) {y z : Operand} (ha : args.toList = [y, z]) {m n : Int} (h1 : a.eval y = .int .i64 m) (h2 : a.eval z = .int .i64 n) : Zg R P o σ F a w (.v (.int .i64 (min m n))) := by
 have ha' : args = #[y, z] := by rw [← Array.toArray_toList (xs := args), ha]
 subst ha'
 refine ⟨.int .i64 (min m n), fun w' _ => ?_, .f _ _ (.v _)⟩
 have e : (if n < m then n else m) = min m n := by omega
 simp [execOp, ho, resolve, invoke, builtin, Builtin.min_, Builtin.min2, h1, h2, e]
theorem max_run {ts : Array Nat} {args : Array Operand} (ho : o.op = .call { callee := .builtin .max, args := args, argTypes := ts }) {y z : Operand} (ha : args.toList = [y, z]) {m n : Int} (h1 : a.eval y = .int .i64 m) (h2 : a.eval z = .int .i64 n) : Zg R P o σ F a w (.v (.int .i64 (max m n))) := by
 have ha' : args = #[y, z] := by rw [← Array.toArray_toList (xs := args), ha]
 subst ha'
 refine ⟨.int .i64 (max m n), fun w' _ => ?_, .f _ _ (.v _)⟩
 have e : (if m < n then n else m) = max m n := by omega
 simp [execOp, ho, resolve, invoke, builtin, Builtin.max_, Builtin.max2, h1, h2, e]
theorem Zfq (hr : RepAt X σ F s a w) {y : Operand} (ho : o.op = .nilCheck y) : (∀ id i sz j, s.ev y = .ptr id i sz j → Zg R P o σ F a w (.ptr id i sz j)) ∧ (∀ cs, s.ev y = .rp cs → Zg R P o σ F a w (.rp cs)) := by
 refine ⟨fun id i sz j hy => ?_, fun cs hy => ?_⟩
 ·have h := hy ▸ hr.ev y
  obtain ⟨g, b, c, n, hs, he⟩ := RepV.ptrv h
  exact ⟨a.eval y, fun w' _ => by simp [execOp, ho, he], h⟩
 ·have h := hy ▸ hr.ev y
  obtain ⟨ad, V, he, _⟩ := RepV.rpv h
  exact ⟨a.eval y, fun w' _ => by simp [execOp, ho, he], h⟩
theorem Zas (hr : RepAt X σ F s a w) {f : Nat} {first cap : Array Operand} (ho : o.op = .makeFunc (.func f) first cap) (hf : first.size = 0) : Zg R P o σ F a w (.fn f (cap.toList.map s.ev)) := by
 have hf' : first = #[] := Array.eq_empty_of_size_eq_zero hf
 subst hf'
 refine ⟨.func (.func f) #[] (cap.toList.map a.eval).toArray, fun w' _ => ?_, .fn f _ _ (by simp) (fun j x u hx hu => ?_)⟩
 ·cases cap; simp [execOp, ho, Instr.makeFunc]
 ·rw [List.getElem?_map, Option.map_eq_some_iff] at hx hu
  obtain ⟨p, hp, rfl⟩ := hx
  obtain ⟨q, hq, rfl⟩ := hu
  rw [hp] at hq
  injection hq with hq
  subst hq
  exact hr.ev p
theorem Z1a (hr : RepAt X σ F s a w) {lo hi : Option Operand} {len : Nat} {l h : Nat} (hb : bnds (lo.map s.ev) (hi.map s.ev) len = some (c, l, h)) (hc : c) (isS : Bool) (n : Nat) (hn : len ≤ n) :
  l ≤ h ∧ h ≤ len ∧ ∀ w', (Instr.sliceBounds isS len n (lo.map a.eval) (hi.map a.eval) none).run P w' = .ok (l, h, n) w' := by
 unfold bnds at hb
 have val : ∀ {z : Option Operand} {k : IntKind} {q : Int}, z.map s.ev = some (.v (.int k q)) → z.map a.eval = some (.int k q) := fun {z k q} hz => by
  obtain ⟨y, rfl, hy⟩ := Option.map_eq_some_iff.1 hz
  exact congrArg some (RepV.val (hy ▸ hr.ev y))
 split at hb
 ·rename_i h1 h2
  simp only [Option.some.injEq, Prod.mk.injEq] at hb
  obtain ⟨_, rfl, rfl⟩ := hb
  rw [Option.map_eq_none_iff] at h1 h2
  subst h1 h2
  exact ⟨Nat.zero_le _, Nat.le_refl _, fun w' => by simp [Instr.sliceBounds]⟩
 ·rename_i k q h1 h2
  simp only [Option.some.injEq, Prod.mk.injEq] at hb
  obtain ⟨rfl, rfl, rfl⟩ := hb
  rw [Option.map_eq_none_iff] at h2
  subst h2
  rw [val h1]
  refine ⟨by omega, Nat.le_refl _, fun w' => ?_⟩
  simp [Instr.sliceBounds, run_sliceBound, hc.1, hc.2]
 ·rename_i k q h1 h2
  simp only [Option.some.injEq, Prod.mk.injEq] at hb
  obtain ⟨rfl, rfl, rfl⟩ := hb
  rw [Option.map_eq_none_iff] at h1
  subst h1
  rw [val h2]
  refine ⟨by omega, by omega, fun w' => ?_⟩
  simp [Instr.sliceBounds, run_sliceBound, hc.1, show q ≤ (n : Int) by omega]
 ·rename_i k q k' q' h1 h2
  simp only [Option.some.injEq, Prod.mk.injEq] at hb
  obtain ⟨rfl, rfl, rfl⟩ := hb
  rw [val h1, val h2]
  refine ⟨by omega, by omega, fun w' => ?_⟩
  simp [Instr.sliceBounds, run_sliceBound, hc.1, show 0 ≤ q' by omega, show q' ≤ (n : Int) by omega, show q ≤ max q' 0 by omega]
 ·cases hb
theorem Zaq (hT : Zh P T) (hr : RepAt X σ F s a w) {t : Nat} {y : Operand} {lo hi : Option Operand} (ho : o.op = .slice t y lo hi none) {b : ByteArray} (hy : s.ev y = .v (.string b)) {m p : Nat} {z : Value} (ht : T t = some ⟨.str, m, p, z⟩) {l h : Nat}
  (hb : bnds (lo.map s.ev) (hi.map s.ev) b.size = some (c, l, h)) (hc : c) : Zg R P o σ F a w (.v (.string (b.extract l h))) := by
 have h3 : a.eval y = .string b := RepV.val (hy ▸ hr.ev y)
 have hu : P.underlying t = some .string := (hT _ _ ht).kind
 obtain ⟨h1, h2, hrun⟩ := Z1a (P := P) hr hb hc false b.size (Nat.le_refl _)
 refine ⟨_, fun w' _ => ?_, .f _ _ (.v _)⟩
 simp [execOp, ho, h3, run_sliceAt_string _ _ _ _ _ _ hu, Instr.slice, run_underlying hu, hrun w']
theorem Z2z (hT : Zh P T) {t e : Nat} {m p : Nat} {z : Value} (ht : T t = some ⟨.slice e, m, p, z⟩) {ti : TI} (hti : T e = some ti) (A : Option Addr) (len cap l h : Nat) {lo hi : Option Value}
  (hb : (Instr.sliceBounds true len cap lo hi none).run P w = .ok (l, h, cap) w) : (Instr.sliceAt t (.slice A len cap) lo hi none).run P w = .ok (.slice (if cap = l then A else A.map (·.add (l * ti.size))) (h - l) (cap - l)) w := by
 have hu : P.underlying t = some (.slice e) := (hT _ _ ht).kind
 have hel : P.elem t = e := by simp [Program.elem, hu]
 have hu' : P.underlying t = some (.slice (P.elem t)) := by rw [hel]; exact hu
 rw [run_sliceAt_slice _ _ _ _ _ _ hu', run_slice_any _ _ _ _ _ hu', hb]
 simp [hel, (hT _ _ hti).size_run, sliced]
theorem Zck (hT : Zh P T) (hr : RepAt X σ F s a w) {t e : Nat} {y : Operand} {lo hi : Option Operand} (ho : o.op = .slice t y lo hi none) {sz : Nat} {es : List (List AV)} (hy : s.ev y = .ro sz es) {m p : Nat} {z : Value} (ht : T t = some ⟨.slice e, m, p, z⟩)
  {ti : TI} (hti : T e = some ti) {l h : Nat} (hb : bnds (lo.map s.ev) (hi.map s.ev) es.length = some (c, l, h)) (hc : c) (hsz : sz = ti.size) : Zg R P o σ F a w (.ro sz ((es.take h).drop l)) := by
 obtain ⟨A, cp, he, hle, hx⟩ := RepV.rov (hy ▸ hr.ev y)
 obtain ⟨h1, h2, hrun⟩ := Z1a (P := P) hr hb hc true cp hle
 refine ⟨.slice (if cp = l then A else A.map (·.add (l * ti.size))) (h - l) (cp - l), fun w' _ => by simp [execOp, ho, he, Z2z hT ht hti A _ cp l h (hrun w')], ?_⟩
 have hlen : ((es.take h).drop l).length = h - l := by simp; omega
 rcases Nat.eq_zero_or_pos (h - l) with h0 | h0
 ·have : (es.take h).drop l = [] := List.eq_nil_of_length_eq_zero (by omega)
  rw [this, h0]
  exact .f _ _ (.nil0 _ _ _)
 ·obtain ⟨ad, V, rfl, hF, hl, hcell, hrep⟩ := hx (fun e => by subst e; simp at h2; omega)
  rw [if_neg (by omega)]
  have hget : ∀ i cs, ((es.take h).drop l)[i]? = some cs → es[l + i]? = some cs := fun i cs hi => by
   rw [List.getElem?_drop, List.getElem?_take] at hi
   split at hi
   ·exact hi
   ·cases hi
  subst hsz
  refine .f _ _ (.ro _ _ _ _ (ad.add (l * ti.size)) (fun i j => V (l + i) j) hlen (by omega) (by rw [Z2j]; exact hF) (fun cs hcs => hl cs (List.mem_of_mem_take (List.mem_of_mem_drop hcs))) (fun i cs j x hi hj => ?_) (fun i cs j x hi hj => hrep _ cs j x (hget i cs hi) hj))
  have := hcell _ cs j x (hget i cs hi) hj
  rw [Zan, ← Nat.add_assoc, ← Nat.add_mul]
  exact this
theorem Zar (hT : Zh P T) (hr : RepAt X σ F s a w) {t e : Nat} {y : Operand} {lo hi : Option Operand} (ho : o.op = .slice t y lo hi none) {id sz off len : Nat} (hy : s.ev y = .own id sz off len) {m p : Nat} {z : Value} (ht : T t = some ⟨.slice e, m, p, z⟩)
  {ti : TI} (hti : T e = some ti) {l h : Nat} (hb : bnds (lo.map s.ev) (hi.map s.ev) len = some (c, l, h)) (hc : c) (hsz : sz = ti.size) : Zg R P o σ F a w (.own id sz (off + l) (h - l)) := by
 subst hsz
 rcases RepV.ownv (hy ▸ hr.ev y) with ⟨hs, rfl, rfl, he⟩ | ⟨g, b, cp, n, hs, hn, hcp, he | ⟨rfl, rfl, rfl, A, he⟩⟩
 ·obtain ⟨h1, h2, hrun⟩ := Z1a (P := P) hr hb hc true 0 (Nat.le_refl _)
  obtain rfl : h = 0 := by omega
  obtain rfl : l = 0 := by omega
  exact ⟨.slice none 0 0, fun w' _ => by simp [execOp, ho, he, Z2z hT ht hti none 0 0 0 0 (hrun w')], .own0 id _ hs⟩
 ·obtain ⟨h1, h2, hrun⟩ := Z1a (P := P) hr hb hc true (cp - off) (by omega)
  refine ⟨.slice (if cp - off = l then some ⟨g, (b + off) * ti.size, none⟩ else (some (⟨g, (b + off) * ti.size, none⟩ : Addr)).map (·.add (l * ti.size))) (h - l) (cp - off - l), fun w' _ => by simp [execOp, ho, he, Z2z hT ht hti _ len (cp - off) l h (hrun w')], ?_⟩
  by_cases hz : cp - off = l
  ·rw [if_pos hz, show h - l = 0 by omega, show cp - off - l = 0 by omega]
   exact .ownz id _ _ g b cp n _ hs (by omega) (by omega)
  ·rw [if_neg hz, show cp - off - l = cp - (off + l) by omega]
   simp only [Option.map_some, Zl]
   rw [← Nat.add_mul, Nat.add_assoc]
   exact .own id _ _ _ g b cp n hs (by omega) hcp
 ·obtain ⟨h1, h2, hrun⟩ := Z1a (P := P) hr hb hc true 0 (Nat.le_refl _)
  obtain rfl : h = 0 := by omega
  obtain rfl : l = 0 := by omega
  exact ⟨.slice A 0 0, fun w' _ => by simp [execOp, ho, he, Z2z hT ht hti A 0 0 0 0 (hrun w')], .ownz id _ _ g b _ _ A hs rfl rfl⟩
end
end Go.Proofs.YtnehieeplbgaiacDoor.Eng
set_option linter.unusedVariables false
set_option linter.unusedSimpArgs false
namespace Go.Proofs.YtnehieeplbgaiacDoor.Eng
open Go
section
variable {R0 : World → World → Prop} {P : Program} {T : Tab} {X : Ctx} {σ : Nat → Option Blk} {F : Nat → Prop} {s : St} {a : Act} {w : World} {o : Oper} {c : Prop} {x : AV}
theorem Z4o (hr : RepAt X σ F s a w) {y : Operand} {id : Nat} {k : List Nat} (hy : s.ev y = .nm id k) {e ei sz isz : Nat} {part hole : Option Nat} {es : List (List AV)} (hq : s.heap[id]? = some (.lin e ei sz isz part hole es)) :
  ∃ R B V, σ id = some (.ext (Z1g R B) V) ∧ a.eval y = V k ∧ (V k).oneCell' = true ∧ LinRep F w e ei sz isz (part.getD es.length) hole es R B V := by
 obtain ⟨R, B, V, h1, h2⟩ := hr.heap.obj id _ hq
 have h := hy ▸ hr.ev y
 generalize a.eval y = v at h ⊢
 cases h with
 | f _ _ h => cases h
 | nm _ _ gs V' h h5 =>
  rw [h1] at h
  injection h with h
  injection h with e1 e2
  subst e2
  exact ⟨R, B, V, h1, rfl, h5, h2⟩
theorem HdrRep.slice {q : Blk} {sz len : Nat} {v : Value} (h : HdrRep q F w sz len v) : ∃ A c, v = .slice A len c := by
 cases h with
 | f _ _ h => cases h
 | own0 _ _ h => exact ⟨none, 0, rfl⟩
 | own _ _ _ _ g b c n h hn hc => exact ⟨_, _, rfl⟩
 | ownz _ _ _ g b c n a h hn hc => exact ⟨_, _, rfl⟩
theorem HdrRep.at {g b c n sz len : Nat} {v : Value} (h : HdrRep (.at_ g b c n) F w sz len v) (h0 : 0 < len) : v = .slice (some ⟨g, b * sz, none⟩) len c := by
 rcases RepV.ownv h with ⟨h1, _⟩ | ⟨g', b', c', n', h1, _, _, h2 | ⟨h2, _⟩⟩
 ·cases h1
 ·cases h1; simpa using h2
 ·omega
theorem HdrRep.pos {q : Blk} {sz len : Nat} {v : Value} (h : HdrRep q F w sz len v) (h0 : 0 < len) : ∃ g b c n, q = .at_ g b c n ∧ v = .slice (some ⟨g, b * sz, none⟩) len c := by
 cases q with
 | nil =>
  rcases RepV.ownv h with ⟨_, _, h2, _⟩ | ⟨g', b', c', n', h1, _⟩
  ·omega
  ·cases h1
 | at_ g b c n => exact ⟨g, b, c, n, rfl, h.at h0⟩
 | ext gs V => rcases RepV.ownv h with ⟨h1, _⟩ | ⟨g', b', c', n', h1, _⟩ <;> cases h1
theorem RowRep.at {g b c n e sz : Nat} {es : List (List AV)} (h : RowRep (.at_ g b c n) F w e sz es) : n = es.length ∧ es.length ≤ c ∧ b + c ≤ maxLen ∧ ∃ cur : Array Value, w.heap[g]? = some (.cells cur e (0, 0)) ∧ cur.size = (b + c) * sz ∧ (∀ cs ∈ es, cs.length = sz) ∧
  ∀ (i : Nat) (cs : List AV) (j : Nat) (x : AV), es[i]? = some cs → cs[j]? = some x → ∃ u, cur[(b + i) * sz + j]? = some u ∧ u.oneCell' = true ∧ RepF F w x u := by
 rcases h with ⟨h1, _⟩ | ⟨g', b', c', cur, h1, h2, h3, h4, h5, h6, h7⟩
 ·cases h1
 ·cases h1; exact ⟨rfl, h2, h3, cur, h4, h5, h6, h7⟩
theorem RowRep.pos {q : Blk} {e sz : Nat} {es : List (List AV)} (h : RowRep q F w e sz es) (h0 : 0 < es.length) : ∃ g b c, q = .at_ g b c es.length := by
 rcases h with ⟨_, h2⟩ | ⟨g', b', c', cur, h1, _⟩
 ·subst h2; simp at h0
 ·exact ⟨g', b', c', h1⟩
section
variable {e ei sz isz c' : Nat} {hole : Option Nat} {es : List (List AV)} {R : Blk} {B : Nat → Blk} {V : List Nat → Value}
theorem LinRep.pos (h : LinRep F w e ei sz isz c' hole es R B V) (h0 : 0 < es.length) : ∃ g b cap cur, R = .at_ g b cap es.length ∧ es.length ≤ cap ∧ b + cap ≤ maxLen ∧ w.heap[g]? = some (.cells cur e (0, 0)) ∧ cur.size = (b + cap) * sz ∧ (∀ cs ∈ es, cs.length = sz) ∧
  ∀ (i : Nat) (cs : List AV) (j : Nat) (x : AV), es[i]? = some cs → cs[j]? = some x → ∃ u, cur[(b + i) * sz + j]? = some u ∧ u.oneCell' = true ∧ Z6d F w ei sz isz c' hole B V i j x u := by
 rcases h.root with ⟨_, h2⟩ | ⟨g, b, cap, cur, h1, h2⟩
 ·rw [h2] at h0; exact absurd h0 (Nat.not_lt_zero _)
 ·exact ⟨g, b, cap, cur, h1, h2⟩
theorem LinRep.pt (h : LinRep F w e ei sz isz c' hole es R B V) {n : Nat} (hn' : n < es.length) (j : Nat) : ∃ g b cap, R = .at_ g b cap es.length ∧ V [2, n, j] = .pointer (some ⟨g, (b + n) * sz + j, none⟩) := by
 obtain ⟨g, b, cap, cur, h1, _⟩ := h.pos (by omega)
 exact ⟨g, b, cap, h1, h.rptr g b cap _ h1 n j⟩
theorem Z8t {es : List (List AV)} {n : Nat} (h : n < es.length) : es[n]? = some (Z2 es n) := by simp [Z2, List.getElem?_eq_getElem h]
theorem Zfa {cs : List AV} {isz : Nat} {row : List (List AV)} (h : cs[cs.length - 1]? = some (.ro isz row)) : innOf cs = row := by
 unfold innOf
 rw [List.getLast?_eq_getElem?, h]
theorem LinRep.innr (h : LinRep F w e ei sz isz c' hole es R B V) {k : Nat} (hk : k < c') (hh : hole ≠ some k) : (V [1, k]).oneCell' = true ∧ RowRep (B k) F w ei isz (innOf (Z2 es k)) ∧ HdrRep (B k) F w isz (innOf (Z2 es k)).length (V [1, k]) := by
 obtain ⟨g, b, cap, cur, cs, row, h1, h2, h3, h4, h5, h6, h7, h8, h9⟩ := h.inner hk hh
 obtain ⟨_, _, _, _, _, _, _, _, _, h10, _⟩ := h.pos (Nat.lt_of_le_of_lt (Nat.zero_le _) (List.getElem?_eq_some_iff.1 h4).1)
 have hl := h10 _ (List.mem_of_getElem? h4)
 have e1 : Z2 es k = cs := by simp [Z2, h4]
 have e2 : innOf cs = row := Zfa (isz := isz) (by rw [hl]; exact h5)
 rw [e1, e2]
 exact ⟨h7, h8, h9⟩
end
section
variable {F' : Nat → Prop} {e ei sz isz : Nat} {es : List (List AV)} {R : Blk} {B : Nat → Blk} {V : List Nat → Value}
theorem Zcx {q : Blk} {e sz off len : Nat} {es : List (List AV)} {v : Value} (h : RowRep q F w e sz es) (hh : RepV (fun _ => some q) F w (.own 0 sz off len) v) (hF : ∀ g, F g → F' g) (hq : ∀ g, q.has g → F' g) : RepF F' w (.ro sz ((es.drop off).take len)) v := by
 rcases Nat.eq_zero_or_pos len with h0 | h0
 ·subst h0
  rw [List.take_zero]
  rcases RepV.ownv hh with ⟨_, _, _, rfl⟩ | ⟨g, b, c, n, _, _, _, rfl | ⟨_, _, _, A, rfl⟩⟩ <;> exact .nil0 _ _ _
 ·rcases RepV.ownv hh with ⟨_, _, rfl, _⟩ | ⟨g, b, c, n, h1, h2, h3, rfl | ⟨rfl, _⟩⟩
  ·exact absurd h0 (Nat.lt_irrefl _)
  ·injection h1 with h1
   subst h1
   obtain ⟨rfl, h4, h5, cur, h6, h7, h8, h9⟩ := h.at
   have hl : ((es.drop off).take len).length = len := by simp; omega
   have hget : ∀ i cs, ((es.drop off).take len)[i]? = some cs → es[off + i]? = some cs := fun i cs hi => by
    rw [List.getElem?_take] at hi
    split at hi
    ·rwa [List.getElem?_drop] at hi
    ·cases hi
   refine .ro sz len (c - off) _ ⟨g, (b + off) * sz, none⟩ (fun i j => (cur[(b + (off + i)) * sz + j]?).getD undef) hl (by omega) (hq g rfl) (fun cs hcs => h8 cs (List.mem_of_mem_drop (List.mem_of_mem_take hcs))) (fun i cs j x hi hj => ?_) (fun i cs j x hi hj => ?_)
   ·obtain ⟨u, k1, k2, k3⟩ := h9 _ cs j x (hget i cs hi) hj
    simp only [k1, Option.getD_some]
    refine ⟨?_, k2⟩
    rw [Zl, ← Nat.add_assoc, ← Nat.add_mul, Nat.add_assoc b]
    simp [World.cell?, h6, k1]
   ·obtain ⟨u, k1, k2, k3⟩ := h9 _ cs j x (hget i cs hi) hj
    simp only [k1, Option.getD_some]
    exact k3.mono hF (fun _ _ => rfl)
  ·exact absurd h0 (Nat.lt_irrefl _)
theorem sub_own {q : Blk} {sz n l h : Nat} {v : Value} (hh : HdrRep q F w sz n v) : RepV (fun _ => some q) F w (.own 0 sz (min l (min h n)) (min h n - min l (min h n))) (Z1u sz v l h) := by
 rcases RepV.ownv hh with ⟨h1, _, h2, rfl⟩ | ⟨g, b, c, m, h1, h2, h3, rfl | ⟨h2, h4, h5, A, rfl⟩⟩
 ·subst h2
  have e1 : min h 0 = 0 := by omega
  have e2 : min l 0 = 0 := by omega
  simp only [Z1u, e1, e2, if_true]
  exact .own0 _ _ h1
 ·simp only [Z1u, Nat.add_zero, Nat.sub_zero]
  by_cases hz : c = min l (min h n)
  ·rw [if_pos hz, show min h n - min l (min h n) = 0 by omega, show c - min l (min h n) = 0 by omega]
   exact .ownz _ _ _ g b c m _ h1 (by omega) (by omega)
  ·rw [if_neg hz]
   simp only [Option.map_some, Zl]
   rw [← Nat.add_mul]
   exact .own _ _ _ _ g b c m h1 (by omega) h3
 ·subst h2
  have e1 : min h 0 = 0 := by omega
  have e2 : min l 0 = 0 := by omega
  simp only [Z1u, e1, e2, if_true]
  exact .ownz _ _ _ g b c m _ h1 h4 h5
theorem LinRep.ro1 (h : LinRep F w e ei sz isz es.length none es R B V) (hF : ∀ g, F g → F' g) (hq : ∀ g, Z1g R B g → F' g) (k : Nat) : RepF F' w (.ro isz (innOf (Z2 es k))) (V [1, k]) := by
 rcases Nat.lt_or_ge k es.length with hk | hk
 ·obtain ⟨_, h2, h3⟩ := h.innr hk (by simp)
  have := Zcx h2 h3 hF (fun g hg => hq g (.inr ⟨k, hg⟩))
  rwa [List.drop_zero, List.take_length] at this
 ·rw [(h.out k (.inl hk)).2]
  have : Z2 es k = [] := by simp [Z2, List.getElem?_eq_none hk]
  rw [this]
  exact .nil0 _ _ _
theorem LinRep.ro3 (h : LinRep F w e ei sz isz es.length none es R B V) (hF : ∀ g, F g → F' g) (hq : ∀ g, Z1g R B g → F' g) (k l t : Nat) : RepF F' w (.ro isz (((innOf (Z2 es k)).take t).drop l)) (V [3, k, l, t]) := by
 rw [h.sub]
 rcases Nat.lt_or_ge k es.length with hk | hk
 ·obtain ⟨_, h2, h3⟩ := h.innr hk (by simp)
  have := Zcx h2 (sub_own (l := l) (h := t) h3) hF (fun g hg => hq g (.inr ⟨k, hg⟩))
  have e : ((innOf (Z2 es k)).drop (min l (min t (innOf (Z2 es k)).length))).take (min t (innOf (Z2 es k)).length - min l (min t (innOf (Z2 es k)).length)) = ((innOf (Z2 es k)).take t).drop l := by
   generalize innOf (Z2 es k) = row
   apply List.ext_getElem?
   intro i
   rw [List.getElem?_take, List.getElem?_drop, List.getElem?_drop, List.getElem?_take]
   by_cases hi : i < min t row.length - min l (min t row.length)
   ·rw [if_pos hi, if_pos (by omega)]
    congr 1; omega
   ·rw [if_neg hi]
    split
    ·rw [List.getElem?_eq_none (by omega)]
    ·rfl
  rwa [e] at this
 ·rw [(h.out k (.inl hk)).2]
  have e0 : Z2 es k = [] := by simp [Z2, List.getElem?_eq_none hk]
  rw [e0]
  have e1 : ((innOf []).take t).drop l = ([] : List (List AV)) := by simp [innOf]
  rw [e1]
  have e2 : min t 0 = 0 := by omega
  have e3 : min l 0 = 0 := by omega
  simp only [Z1u, e2, e3, if_true]
  exact .nil0 _ _ _
theorem LinRep.ro0 (h : LinRep F w e ei sz isz es.length none es R B V) (hF : ∀ g, F g → F' g) (hq : ∀ g, Z1g R B g → F' g) : RepF F' w (.ro sz es) (V [0]) := by
 rcases Nat.eq_zero_or_pos es.length with h0 | h0
 ·have : es = [] := List.eq_nil_of_length_eq_zero h0
  subst this
  obtain ⟨A, c, hv⟩ := h.rhdr.slice
  rw [hv]; exact .nil0 _ _ _
 ·obtain ⟨g, b, cap, cur, h1, h2, h3, h4, h5, h6, h7⟩ := h.pos h0
  have hh := h.rhdr
  rw [h1] at hh
  rw [hh.at h0]
  refine .ro sz es.length cap es ⟨g, b * sz, none⟩ (fun i j => (cur[(b + i) * sz + j]?).getD undef) rfl h2 (hq g (.inl (by rw [h1]; rfl))) h6 (fun i cs j x hi hj => ?_) (fun i cs j x hi hj => ?_)
  ·obtain ⟨u, k1, k2, k3⟩ := h7 i cs j x hi hj
   simp only [k1, Option.getD_some]
   refine ⟨?_, k2⟩
   rw [Zl, ← Nat.add_assoc, ← Nat.add_mul]
   simp [World.cell?, h4, k1]
  ·obtain ⟨u, k1, k2, k3⟩ := h7 i cs j x hi hj
   simp only [k1, Option.getD_some]
   rcases k3 with ⟨_, k3⟩ | ⟨_, k4, _, k5, row, k6, k7, k8⟩ | ⟨_, k3⟩
   ·cases k3
   ·rw [k6]
    have := Zcx k7 k8 hF (fun g hg => hq g (.inr ⟨i, hg⟩))
    rwa [List.drop_zero, List.take_length] at this
   ·exact k3.mono hF (fun _ _ => rfl)
end
theorem Zco (hT : Zh P T) (hr : RepAt X σ F s a w) {t : Nat} {y z : Operand} (ho : o.op = .indexAddr t y z) {k : IntKind} {n : Int} (hz : s.ev z = .v (.int k n)) {e m p : Nat} {zv : Value} (ht : T t = some ⟨.slice e, m, p, zv⟩) {ti : TI} (hi : T e = some ti)
  {id : Nat} {l : List Nat} (hy : s.ev y = .nm id l) (h : Zfb s.heap id l n ti = some (c, x)) (hc : c) : Zg R0 P o σ F a w x := by
 have h2 : a.eval z = .int k n := RepV.val (hz ▸ hr.ev z)
 have hu : P.underlying t = some (.slice e) := (hT _ _ ht).kind
 unfold Zfb at h
 split at h
 ·split at h
  ·rename_i e' ei sz isz part hole es hq
   cases h
   obtain ⟨h0, h1, hs1⟩ := hc
   obtain ⟨R, B, V, h3, h4, h5, h6⟩ := Z4o hr hy hq
   obtain ⟨g, b, c, n', h7, h8⟩ := h6.rhdr.pos (by omega)
   have h9 : V [2, n.toNat, 0] = _ := h6.rptr g b c n' h7 n.toNat 0
   refine ⟨V [2, n.toNat, 0], fun w' _ => ?_, .nm id [2, n.toNat, 0] _ V h3 (by rw [h9]; rfl)⟩
   rw [h8] at h4
   rw [h9]
   simp [execOp, ho, h4, h2, Instr.indexAt, asIntOf, run_underlying hu, h0, h1, (hT _ _ hi).size_run, hs1, Zl, Nat.add_mul, Nat.add_assoc]
  ·cases h
 ·cases h
theorem Zfs (hT : Zh P T) (hr : RepAt X σ F s a w) {t f : Nat} {y : Operand} (ho : o.op = .fieldAddr t y f) {fs : List (Nat × Nat)} {m p : Nat} {z : Value} (ht : T t = some ⟨.struct fs, m, p, z⟩)
  {off ft : Nat} (hf : fs[f]? = some (off, ft)) {i : TI} (hi : T ft = some i) (h0 : i.size ≠ 0) {id : Nat} {l : List Nat} (hy : s.ev y = .nm id l) (h : Zhp s.heap id l off = some (c, x)) (hc : c) : Zg R0 P o σ F a w x := by
 obtain ⟨ar, hu, hm⟩ := (hT _ _ ht).kind
 obtain ⟨fd, hfd, rfl, rfl⟩ := Z68 hm hf
 unfold Zhp at h
 split at h
 ·rename_i n j
  split at h
  ·rename_i e' ei sz isz part hole es hq
   cases h
   obtain ⟨R, B, V, h3, h4, h5, h6⟩ := Z4o hr hy hq
   obtain ⟨g, b, cap, h7, h8⟩ := h6.pt hc j
   have h9 := h6.rptr g b cap _ h7 n (j + fd.offset)
   refine ⟨V [2, n, j + fd.offset], fun w' _ => ?_, .nm id _ _ V h3 (by rw [h9]; rfl)⟩
   rw [h8] at h4
   rw [h9]
   simp [execOp, ho, h4, Instr.fieldAt, run_underlying hu, hfd, Instr.sureAddr, fieldPlace, (hT _ _ hi).size_run, h0, Zl, Nat.add_assoc]
  ·cases h
 ·cases h
theorem Zfp (hr : RepAt X σ F s a w) {y : Operand} (ho : o.op = .nilCheck y) {id : Nat} {l : List Nat} (hy : s.ev y = .nm id l) (h : Zf7 s.heap id l = some (c, x)) (hc : c) : Zg R0 P o σ F a w x := by
 unfold Zf7 at h
 split at h
 ·rename_i n j
  split at h
  ·rename_i e' ei sz isz part hole es hq
   cases h
   obtain ⟨R, B, V, h3, h4, h5, h6⟩ := Z4o hr hy hq
   obtain ⟨g, b, cap, h7, h8⟩ := h6.pt hc j
   refine ⟨V [2, n, j], fun w' _ => ?_, .nm id _ _ V h3 h5⟩
   rw [h8] at h4
   rw [h8]
   simp [execOp, ho, h4]
  ·cases h
 ·cases h
theorem Zet {t : Nat} {i : TI} (hT : TIOk P t i) (hr : RepAt X σ F s a w) {y : Operand} (ho : o.op = .load t y) {id : Nat} {l : List Nat} (hy : s.ev y = .nm id l) (h : Z6i s.heap id l i = some (c, x)) (hc : c) : Z4s P o σ F a w x := by
 unfold Z6i at h
 split at h
 ·rename_i n j
  split at h
  ·rename_i e' ei sz isz part hole es hq
   obtain ⟨R, B, V, h3, h4, h5, h6⟩ := Z4o hr hy hq
   have key : n < es.length → 0 < i.size → (i.k.agg = false → i.size = 1) → j + i.size ≤ sz → (∀ q x u, (Z2 es n)[q]? = some x → q < j + i.size → Z6d F w ei sz isz (part.getD es.length) hole B V n q x u → RepV σ F w x u) → Z4s P o σ F a w (Z12 i ((Z2 es n).drop j)) := by
    intro hlt h0 h1 hjs hcell
    obtain ⟨g, b, cap, cur, k1, k2, k3, k4, k5, k6, k7⟩ := h6.pos (by omega)
    have h8 := h6.rptr g b cap _ k1 n j
    rw [h8] at h4
    have hes := Z8t hlt
    have hl : (Z2 es n).length = sz := k6 _ (List.mem_of_getElem? hes)
    have hca : Z12 i ((Z2 es n).drop j) = Z12 i (((Z2 es n).drop j).take i.size) := by
     unfold Z12
     split
     ·rw [List.take_take, Nat.min_self]
     ·rw [List.getElem?_take, if_pos h0]
    rw [hca]
    refine Z4w (σ := σ) (F := F) (w := w) hT ho h4 _ (fun q => (cur[(b + n) * sz + (j + q)]?).getD undef) (by simp; omega) h0 h1 (fun q x hx => ?_) (fun q x hx => ?_)
    ·rw [List.getElem?_take] at hx
     split at hx
     ·rename_i hq'
      obtain ⟨u, m1, m2, _⟩ := k7 n _ (j + q) _ hes (List.getElem?_eq_getElem (by omega))
      simp only [m1, Option.getD_some]
      refine ⟨?_, m2⟩
      rw [Zl, Nat.add_assoc]
      simp [World.cell?, k4, m1]
     ·cases hx
    ·rw [List.getElem?_take] at hx
     split at hx
     ·rename_i hq'
      rw [List.getElem?_drop] at hx
      obtain ⟨u, m1, m2, m3⟩ := k7 n _ (j + q) _ hes hx
      simp only [m1, Option.getD_some]
      exact hcell (j + q) x u hx (by omega) m3
     ·cases hx
   split at h
   ·rename_i hd
    cases h
    have hd' := of_decide_eq_true hd
    refine key hc.1 hc.2.1 hc.2.2 (by omega) (fun q x u hx hq hL => ?_)
    rcases hL with ⟨e1, _⟩ | ⟨e1, _⟩ | ⟨_, h7⟩
    ·omega
    ·omega
    ·exact .f _ _ h7
   ·cases h
    obtain ⟨g, b, cap, cur, cs, row, m1, m2, m3, m4, m5, m6, m7, m8, m9⟩ := h6.inner (k := n) (by simpa using hc.1) (by simp)
    have h8 := h6.rptr g b cap _ m1 n j
    rw [h8] at h4
    refine ⟨V [1, n], fun w' hw' => ?_, .nm id [1, n] _ V h3 m7⟩
    have hcl : w.cell? ⟨g, (b + n) * sz + j, none⟩ = some (V [1, n]) := by
     have e : j = sz - 1 := by omega
     subst e
     simp [World.cell?, m3, m6]
    simp [execOp, ho, h4, Instr.loadAt, Instr.sureAddr, loadVar, hT.agg_run, hc.2.2, load, Sem.run, hw'.cell hcl]
   ·cases h
    refine key hc.1 hc.2.2.2.1 hc.2.2.2.2 hc.2.2.1 (fun q x u hx hq hL => ?_)
    rcases hL with ⟨_, e2⟩ | ⟨_, e1, _⟩ | ⟨_, h7⟩
    ·cases e2
    ·have := hc.2.1; simp at e1; omega
    ·exact .f _ _ h7
   ·cases h
  ·cases h
 ·cases h
theorem Zfr (hr : RepAt X σ F s a w) {ts : Array Nat} {args : Array Operand} (ho : o.op = .call { callee := .builtin .len, args := args, argTypes := ts }) {y : Operand} {t e : Nat} (ha : args.toList = [y]) (ht : ts.toList = [t]) (hu : P.underlying t = some (.slice e))
  {id : Nat} {l : List Nat} (hy : s.ev y = .nm id l) (h : Zd7 s.heap id l = some (c, x)) (hc : c) : Zg R0 P o σ F a w x := by
 unfold Zd7 at h
 split at h
 ·split at h
  ·rename_i e' ei sz isz part hole es hq
   cases h
   obtain ⟨R, B, V, h3, h4, h5, h6⟩ := Z4o hr hy hq
   obtain ⟨A, c, h7⟩ := h6.rhdr.slice
   exact Z42 ho ha ht ⟨_, hu, .inr ⟨e, rfl, A, _, c, by rw [h4, h7], rfl⟩⟩
  ·cases h
 ·rename_i n
  split at h
  ·rename_i e' ei sz isz es hq
   cases h
   obtain ⟨R, B, V, h3, h4, h5, h6⟩ := Z4o hr hy hq
   obtain ⟨A, c, h7⟩ := (h6.innr (k := n) (by simpa using hc) (by simp)).2.2.slice
   exact Z42 ho ha ht ⟨_, hu, .inr ⟨e, rfl, A, _, c, by rw [h4, h7], rfl⟩⟩
  ·cases h
 ·cases h
theorem Zcl (hT : Zh P T) (hr : RepAt X σ F s a w) {t e : Nat} {y : Operand} {lo hi : Option Operand} (ho : o.op = .slice t y lo hi none) {m p : Nat} {z : Value} (ht : T t = some ⟨.slice e, m, p, z⟩) {ti : TI} (hti : T e = some ti)
  {id : Nat} {k : List Nat} (hy : s.ev y = .nm id k) (h : Z9d s.heap id k (lo.map s.ev) (hi.map s.ev) ti = some (c, x)) (hc : c) : Zg R0 P o σ F a w x := by
 unfold Z9d at h
 split at h
 ·rename_i n
  split at h
  ·rename_i e' ei sz isz es hq
   split at h
   ·rename_i p' l h' hb
    cases h
    obtain ⟨hn, hp, hs1⟩ := hc
    obtain ⟨R, B, V, h3, h4, h5, h6⟩ := Z4o hr hy hq
    obtain ⟨k1, k2, k3⟩ := h6.innr (k := n) (by simpa using hn) (by simp)
    obtain ⟨A, cap, k4⟩ := k3.slice
    have hle : (innOf (Z2 es n)).length ≤ cap := by
     rcases RepV.ownv k3 with ⟨_, _, e2, _⟩ | ⟨g, b, c, q, e1, e2, e3, e4 | ⟨e4, _⟩⟩
     ·omega
     ·rw [k4] at e4; cases e4; omega
     ·omega
    obtain ⟨h1, h2, hrun⟩ := Z1a (P := P) hr hb hp true cap hle
    have hv : V [3, n, l, h'] = .slice (if cap = l then A else A.map (·.add (l * ti.size))) (h' - l) (cap - l) := by
     rw [h6.sub, k4, ← hs1]
     have e1 : min h' (innOf (Z2 es n)).length = h' := by omega
     have e2 : min l h' = l := by omega
     simp only [Z1u, e1, e2]
    refine ⟨V [3, n, l, h'], fun w' _ => ?_, .nm id [3, n, l, h'] _ V h3 (by rw [hv]; rfl)⟩
    rw [hv]
    simp [execOp, ho, h4, k4, Z2z hT ht hti A _ cap l h' (hrun w')]
   ·cases h
  ·cases h
 ·cases h
end
end Go.Proofs.YtnehieeplbgaiacDoor.Eng
set_option linter.unusedVariables false
set_option linter.unusedSimpArgs false
namespace Go.Proofs.YtnehieeplbgaiacDoor.Eng
open Go
section
variable {R : World → World → Prop} {P : Program} {T : Tab} {X : Ctx} {σ : Nat → Option Blk} {F : Nat → Prop} {s : St} {a : Act} {w : World} {o : Oper} {c : Prop} {x : AV}
def Zaz (T : Tab) : Op → Bool
 | .load _ _ => false
 | .convert a _ _ => (match T a with | some ⟨.slice _, _, _, _⟩ => false | _ => true)
 | _ => true
theorem Zc1 (hR : R = Grow ∨ Zaz T o.op = true) (hT : Zh P T) (hr : RepAt X σ F s a w) (h : Zc T s o.op = some (c, x)) (hc : c) : Zg R P o σ F a w x := by
 have one : ∀ {p q : Prop} {y z : AV}, some (p, y) = some (q, z) → p = q ∧ y = z := fun {p q y z} h => by cases h; exact ⟨rfl, rfl⟩
 unfold Zc at h
 split at h
 ·rename_i y ho
  obtain ⟨_, rfl⟩ := one h
  exact Zdl hr (.inl ho)
 ·rename_i y ho
  obtain ⟨_, rfl⟩ := one h
  exact Zdl hr (.inr ho)
 ·rename_i op t y z t' ho
  split at h
  ·rename_i u v hu hv
   split at h
   ·rename_i c' r he
    obtain ⟨h1, rfl⟩ := one h
    exact val_bin hr ho hu hv he (h1 ▸ hc)
   ·split at h
    ·rename_i p q hne
     split at h
     ·rename_i n m zz ht
      obtain ⟨_, rfl⟩ := one h
      exact (Zfu hT hr ho hu hv ht).1 rfl
     ·cases h
    ·split at h
     ·rename_i n m zz ht
      obtain ⟨_, rfl⟩ := one h
      exact (Zfu hT hr ho hu hv ht).2 rfl
     ·cases h
    ·cases h
  ·cases h
 ·rename_i op t y ho
  split at h
  ·rename_i b hb
   obtain ⟨_, rfl⟩ := one h
   exact val_not hr ho hb
  ·rename_i n hb
   obtain ⟨h1, rfl⟩ := one h
   exact val_neg hr ho hb (h1 ▸ hc)
  ·cases h
 ·rename_i src dst y ho
  split at h
  ·rename_i hs hd hy
   obtain ⟨_, rfl⟩ := one h
   exact Zcr hT hr ho hy hs hd
  ·rename_i hs hd hy
   obtain ⟨_, rfl⟩ := one h
   exact Zcq hT hr ho hy hs hd
  ·rename_i hs hd
   split at h
   ·rename_i he hb
    obtain ⟨h1, rfl⟩ := one h
    obtain rfl := hR.resolve_right (by rw [ho]; simp [Zaz, hs])
    exact Zeu hT hr ho hs hd he hb (h1 ▸ hc)
   ·cases h
  ·cases h
 ·rename_i y i ho
  split at h
  ·rename_i cs hy
   obtain ⟨h1, rfl⟩ := one h
   exact Zcp hr ho hy (h1 ▸ hc)
  ·cases h
 ·rename_i t y f ho
  split at h
  ·rename_i ht hy
   split at h
   ·rename_i off ft hf
    split at h
    ·rename_i i hi
     obtain ⟨h1, rfl⟩ := one h
     rw [← h1] at hc
     exact Zft hT hr ho hy ht hf hi hc.1 hc.2
    ·cases h
   ·cases h
  ·cases h
 ·rename_i t y f ho
  split at h
  ·rename_i ht
   split at h
   ·rename_i off ft hf
    split at h
    ·rename_i hi hy
     obtain ⟨h1, rfl⟩ := one h
     exact (Z54 hT hr ho ht hf hi (h1 ▸ hc)).1 _ _ _ _ hy
    ·rename_i hi hy
     obtain ⟨h1, rfl⟩ := one h
     exact (Z54 hT hr ho ht hf hi (h1 ▸ hc)).2 _ hy
    ·rename_i hi hy
     split at h
     ·rename_i c2 x2 hN
      obtain ⟨h1, rfl⟩ := one h
      rw [← h1] at hc
      exact Zfs hT hr ho ht hf hi hc.2 hy hN hc.1
     ·cases h
    ·cases h
   ·cases h
  ·cases h
 ·rename_i t y z ho
  split at h
  ·rename_i ht hz
   split at h
   ·rename_i hti hy
    obtain ⟨h1, rfl⟩ := one h
    rw [← h1] at hc
    exact Zcn hT hr ho hz ht hti hy hc.1 hc.2.1 hc.2.2
   ·rename_i hti hy
    obtain ⟨h1, rfl⟩ := one h
    rw [← h1] at hc
    exact Zau hT hr ho hz ht hti hy hc.1 hc.2.1 hc.2.2
   ·rename_i hti hy
    exact Zco hT hr ho hz ht hti hy h hc
   ·cases h
  ·cases h
 ·rename_i t y z ho
  split at h
  ·rename_i ht hy hz
   obtain ⟨h1, rfl⟩ := one h
   rw [← h1] at hc
   exact Zat hT hr ho hz ht hy hc.1 hc.2
  ·cases h
 ·rename_i t y ho
  obtain rfl := hR.resolve_right (by rw [ho]; simp [Zaz])
  split at h
  ·rename_i i hi
   split at h
   ·rename_i cs hy
    obtain ⟨h1, rfl⟩ := one h
    rw [← h1] at hc
    exact Zcm (hT _ _ hi) hr ho hy hc.1 hc.2.1 hc.2.2
   ·rename_i id k sz j hy
    obtain ⟨h1, rfl⟩ := one h
    rw [← h1] at hc
    exact Z6e (hT _ _ hi) hr ho hy hc.1 hc.2.1 hc.2.2.1 hc.2.2.2
   ·rename_i id k hy
    exact Zet (hT _ _ hi) hr ho hy h hc
   ·cases h
  ·cases h
 ·rename_i args ts ho
  split at h
  ·rename_i y t ha ht
   split at h
   ·rename_i hti hy
    obtain ⟨_, rfl⟩ := one h
    exact Z42 ho ha ht ⟨_, (hT _ _ hti).kind, .inl ⟨rfl, _, RepV.val (hy ▸ hr.ev y), rfl⟩⟩
   ·rename_i hti hy
    obtain ⟨_, rfl⟩ := one h
    exact Z42 ho ha ht ⟨_, (hT _ _ hti).kind, .inr ⟨_, rfl, _, _, _, RepV.val (hy ▸ hr.ev y), rfl⟩⟩
   ·rename_i hti hy
    obtain ⟨_, rfl⟩ := one h
    obtain ⟨A, cp, he, _⟩ := RepV.rov (hy ▸ hr.ev y)
    exact Z42 ho ha ht ⟨_, (hT _ _ hti).kind, .inr ⟨_, rfl, _, _, _, he, rfl⟩⟩
   ·rename_i hti hy
    obtain ⟨_, rfl⟩ := one h
    rcases RepV.ownv (hy ▸ hr.ev y) with ⟨_, _, rfl, he⟩ | ⟨g, b, cp, n, _, _, _, he | ⟨rfl, _, _, A, he⟩⟩
    ·exact Z42 ho ha ht ⟨_, (hT _ _ hti).kind, .inr ⟨_, rfl, _, _, _, he, rfl⟩⟩
    ·exact Z42 ho ha ht ⟨_, (hT _ _ hti).kind, .inr ⟨_, rfl, _, _, _, he, rfl⟩⟩
    ·exact Z42 ho ha ht ⟨_, (hT _ _ hti).kind, .inr ⟨_, rfl, _, _, _, he, rfl⟩⟩
   ·rename_i hti hy
    exact Zfr hr ho ha ht (hT _ _ hti).kind hy h hc
   ·cases h
  ·cases h
 ·rename_i args ts ho
  split at h
  ·rename_i y z ha
   split at h
   ·rename_i hy hz
    obtain ⟨_, rfl⟩ := one h
    exact min_run ho ha (RepV.val (hy ▸ hr.ev y)) (RepV.val (hz ▸ hr.ev z))
   ·cases h
  ·cases h
 ·rename_i args ts ho
  split at h
  ·rename_i y z ha
   split at h
   ·rename_i hy hz
    obtain ⟨_, rfl⟩ := one h
    exact max_run ho ha (RepV.val (hy ▸ hr.ev y)) (RepV.val (hz ▸ hr.ev z))
   ·cases h
  ·cases h
 ·rename_i y ho
  split at h
  ·rename_i hy
   obtain ⟨_, rfl⟩ := one h
   exact (Zfq hr ho).1 _ _ _ _ hy
  ·rename_i hy
   obtain ⟨_, rfl⟩ := one h
   exact (Zfq hr ho).2 _ hy
  ·rename_i hy
   exact Zfp hr ho hy h hc
  ·cases h
 ·rename_i f first cap ho
  split at h
  ·rename_i hf
   obtain ⟨_, rfl⟩ := one h
   exact Zas hr ho hf
  ·cases h
 ·rename_i t y lo hi ho
  split at h
  ·rename_i ht hy
   split at h
   ·rename_i c' l q hb
    obtain ⟨h1, rfl⟩ := one h
    exact Zaq hT hr ho hy ht hb (h1 ▸ hc)
   ·cases h
  ·rename_i ht hy
   split at h
   ·rename_i c' l q ti hb hti
    obtain ⟨h1, rfl⟩ := one h
    rw [← h1] at hc
    exact Zck hT hr ho hy ht hti hb hc.1 hc.2
   ·cases h
  ·rename_i ht hy
   split at h
   ·rename_i c' l q ti hb hti
    obtain ⟨h1, rfl⟩ := one h
    rw [← h1] at hc
    exact Zar hT hr ho hy ht hti hb hc.1 hc.2
   ·cases h
  ·rename_i ht hy
   split at h
   ·rename_i ti hti
    exact Zcl hT hr ho ht hti hy h hc
   ·cases h
  ·cases h
 ·cases h
theorem Za6 (hT : Zh P T) (hr : RepAt X σ F s a w) (h : Zc T s o.op = some (c, x)) (hc : c) : Z4s P o σ F a w x := Zc1 (.inl rfl) hT hr h hc
end
end Go.Proofs.YtnehieeplbgaiacDoor.Eng
set_option linter.unusedVariables false
set_option linter.unusedSimpArgs false
namespace Go.Proofs.YtnehieeplbgaiacDoor.Eng
open Go
mutual
def AV.sub (f : AV → AV) : AV → AV
 | .agg cs => .agg (AV.subL f cs)
 | .tup cs => .tup (AV.subL f cs)
 | .fn g cs => .fn g (AV.subL f cs)
 | .own id sz off len => f (.own id sz off len)
 | .ptr id i sz j => f (.ptr id i sz j)
 | .nm id k => f (.nm id k)
 | .any => .any
 | .v x => .v x
 | .ro sz es => .ro sz es
 | .rp cs => .rp cs
 | .mp es => .mp es
 | .mq es => .mq es
def AV.subL (f : AV → AV) : List AV → List AV
 | [] => []
 | x :: r => x.sub f :: AV.subL f r
end
theorem AV.subL_eq (f : AV → AV) : ∀ cs : List AV, AV.subL f cs = cs.map (AV.sub f)
 | [] => rfl
 | x :: r => by rw [AV.subL, AV.subL_eq f r]; rfl
def AObj.sub (f : AV → AV) : AObj → AObj
 | .box e cs => .box e (cs.map (AV.sub f))
 | o => o
def Z5 (id : Nat) : AV → AV
 | .own i sz off len => if i = id then .any else .own i sz off len
 | .ptr i k sz j => if i = id then .any else .ptr i k sz j
 | .nm i k => if i = id then .any else .nm i k
 | x => x
def Zbz (id rs : Nat) (es : List (List AV)) : AV → AV
 | .own i sz off len => if i = id then (if sz = rs then .ro sz ((es.drop off).take len) else .any) else .own i sz off len
 | .ptr i k sz j => if i = id then (if sz = rs then .rp ((Z2 es k).drop j) else .any) else .ptr i k sz j
 | .nm i k => if i = id then .any else .nm i k
 | x => x
def Zo (f : AV → AV) (l : List (Nat × AV)) : List (Nat × AV) := l.map fun p => (p.1, p.2.sub f)
theorem Zn (f : AV → AV) (l : List (Nat × AV)) (i : Nat) : envGet (Zo f l) i = (envGet l i).sub f := by
 induction l with
 | nil => simp [Zo, envGet, AV.sub]
 | cons p r ih =>
  obtain ⟨j, x⟩ := p
  simp only [Zo, List.map_cons, envGet] at ih ⊢
  split
  ·rfl
  ·exact ih
section
variable {P : Program} {T : Tab} {X : Ctx} {σ σ' : Nat → Option Blk} {F F' : Nat → Prop} {s : St} {a : Act} {w w' : World} {o : Oper} {c : Prop} {x : AV} {y : Value}
theorem RepF.sub_id {f : AV → AV} (h : RepF F w x y) : x.sub f = x := by
 induction h with
 | fn g cs vs hl h ih =>
  simp only [AV.sub]
  rw [AV.subL_eq]
  congr 1
  apply List.ext_getElem?
  intro j
  rw [List.getElem?_map]
  cases hc : cs[j]? with
  | none => rfl
  | some x =>
   have hj : j < vs.length := by rw [← hl]; exact (List.getElem?_eq_some_iff.1 hc).1
   exact congrArg some (ih j x _ hc (List.getElem?_eq_getElem hj))
 | _ => rfl
theorem RepV.sub {f : AV → AV} (h : RepV σ F w x y) (hF : ∀ x y, RepF F w x y → RepF F' w' x y)
  (ho : ∀ id sz off len y, RepV σ F w (.own id sz off len) y → RepV σ' F' w' (f (.own id sz off len)) y) (hp : ∀ id i sz j y, RepV σ F w (.ptr id i sz j) y → RepV σ' F' w' (f (.ptr id i sz j)) y)
  (hm : ∀ id k y, RepV σ F w (.nm id k) y → RepV σ' F' w' (f (.nm id k)) y) : RepV σ' F' w' (x.sub f) y := by
 induction h with
 | f x y h =>
  have h' := hF _ _ h
  cases h with
  | any => exact .f _ _ h'
  | v => exact .f _ _ h'
  | nil0 => exact .f _ _ h'
  | fn g cs vs hl hh => rw [RepF.sub_id h']; exact .f _ _ h'
  | ro => exact .f _ _ h'
  | mp0 => exact .f _ _ h'
  | mp => exact .f _ _ h'
  | mq => exact .f _ _ h'
  | rp => exact .f _ _ h'
 | own0 id sz h => exact ho _ _ _ _ _ (.own0 id sz h)
 | own id sz off len g b c n h hn hc => exact ho _ _ _ _ _ (.own id sz off len g b c n h hn hc)
 | ownz id sz off g b c n a h hn hc => exact ho _ _ _ _ _ (.ownz id sz off g b c n a h hn hc)
 | ptr id i sz j g b c n h => exact hp _ _ _ _ _ (.ptr id i sz j g b c n h)
 | nm id k gs V h h1 => exact hm _ _ _ (.nm id k gs V h h1)
 | agg cs vs hl h1 h ih =>
  refine .agg _ vs (by rw [AV.subL_eq, List.length_map]; exact hl) h1 (fun j x u hx hu => ?_)
  rw [AV.subL_eq, List.getElem?_map, Option.map_eq_some_iff] at hx
  obtain ⟨x', hx', rfl⟩ := hx
  exact ih j x' u hx' hu
 | tup cs vs hl h ih =>
  refine .tup _ vs (by rw [AV.subL_eq, List.length_map]; exact hl) (fun j x u hx hu => ?_)
  rw [AV.subL_eq, List.getElem?_map, Option.map_eq_some_iff] at hx
  obtain ⟨x', hx', rfl⟩ := hx
  exact ih j x' u hx' hu
 | fn g cs vs hl h ih =>
  refine .fn g _ vs (by rw [AV.subL_eq, List.length_map]; exact hl) (fun j x u hx hu => ?_)
  rw [AV.subL_eq, List.getElem?_map, Option.map_eq_some_iff] at hx
  obtain ⟨x', hx', rfl⟩ := hx
  exact ih j x' u hx' hu
theorem RowRep.mono {q : Blk} {e sz : Nat} {es : List (List AV)} (h : RowRep q F w e sz es) (hF : ∀ x y, RepF F w x y → RepF F' w' x y) (hb : ∀ g, q.has g → w'.heap[g]? = w.heap[g]?) : RowRep q F' w' e sz es := by
 rcases h with ⟨h1, h2⟩ | ⟨g, b, c, cur, h1, h2, h3, h4, h5, h6, h7⟩
 ·exact .inl ⟨h1, h2⟩
 ·refine .inr ⟨g, b, c, cur, h1, h2, h3, (hb g (by rw [h1]; rfl)).trans h4, h5, h6, fun i cs j x hi hj => ?_⟩
  obtain ⟨u, h8, h9, h10⟩ := h7 i cs j x hi hj
  exact ⟨u, h8, h9, hF _ _ h10⟩
theorem HdrRep.mono {q : Blk} {sz len : Nat} {v : Value} (h : HdrRep q F w sz len v) : HdrRep q F' w' sz len v := by
 cases h with
 | f _ _ h => cases h
 | own0 _ _ h => exact .own0 _ _ h
 | own _ _ _ _ g b c n h hn hc => exact .own _ _ _ _ g b c n h hn hc
 | ownz _ _ _ g b c n a h hn hc => exact .ownz _ _ _ g b c n a h hn hc
theorem LinRep.mono {e ei sz isz c : Nat} {hole : Option Nat} {es : List (List AV)} {R : Blk} {B : Nat → Blk} {V : List Nat → Value} (h : LinRep F w e ei sz isz c hole es R B V) (hF : ∀ x y, RepF F w x y → RepF F' w' x y) (hb : ∀ g, Z1g R B g → w'.heap[g]? = w.heap[g]?) : LinRep F' w' e ei sz isz c hole es R B V := by
 refine ⟨?_, h.rhdr.mono, h.rptr, h.sub, h.hol, h.hce, h.hsz, h.out, h.apart, h.inj⟩
 rcases h.root with h1 | ⟨g, b, cap, cur, h1, h2, h3, h4, h5, h6, h7⟩
 ·exact .inl h1
 ·refine .inr ⟨g, b, cap, cur, h1, h2, h3, (hb g (.inl (by rw [h1]; rfl))).trans h4, h5, h6, fun i cs j x hi hj => ?_⟩
  obtain ⟨u, h8, h9, h10⟩ := h7 i cs j x hi hj
  refine ⟨u, h8, h9, ?_⟩
  rcases h10 with h11 | ⟨e1, e2, e3, e4, row, h11, h12, h13⟩ | ⟨e1, h11⟩
  ·exact .inl h11
  ·exact .inr (.inl ⟨e1, e2, e3, e4, row, h11, h12.mono hF (fun g hg => hb g (.inr ⟨i, hg⟩)), h13.mono⟩)
  ·exact .inr (.inr ⟨e1, hF _ _ h11⟩)
theorem RepO.move {id : Nat} {ob : AObj} {f : AV → AV} (h : RepO σ F w id ob) (hs : ∀ k, σ id = some k → σ' id = some k) (hn : σ id = none → σ' id = none) (hF : ∀ x y, RepF F w x y → RepF F' w' x y)
  (hM : ∀ b, F b → F' b ∧ w'.heap[b]? = w.heap[b]?) (hb : ∀ g, hasB σ id g → w'.heap[g]? = w.heap[g]?) (hv : ∀ x y, RepV σ F w x y → RepV σ' F' w' (x.sub f) y) : RepO σ' F' w' id (ob.sub f) := by
 cases ob with
 | dead => exact hn h
 | box e cs =>
  obtain ⟨g, vs, h1, h2, h3, h4, h5⟩ := h
  refine ⟨g, vs, hs _ h1, (hb _ (.at h1)).trans h2, by rw [List.length_map]; exact h3, h4, fun j x u hx hu => ?_⟩
  rw [List.getElem?_map, Option.map_eq_some_iff] at hx
  obtain ⟨x', hx', rfl⟩ := hx
  exact hv _ _ (h5 j x' u hx' hu)
 | row e sz es =>
  rcases h with ⟨h1, h2⟩ | ⟨g, b, c, cur, h1, h2, h3, h4, h5, h6, h7⟩
  ·exact .inl ⟨hs _ h1, h2⟩
  ·refine .inr ⟨g, b, c, cur, hs _ h1, h2, h3, (hb _ (.at h1)).trans h4, h5, h6, fun i cs j x hi hj => ?_⟩
   obtain ⟨u, h8, h9, h10⟩ := h7 i cs j x hi hj
   exact ⟨u, h8, h9, hF _ _ h10⟩
 | mapo es =>
  obtain ⟨g, arr, clock, h1, h2, h3⟩ := h
  exact ⟨g, arr, clock, hs _ h1, (hb _ ⟨_, h1, rfl⟩).trans h2, h3⟩
 | iter last es =>
  obtain ⟨g, om, since, seen, c0, h1, h2, h3⟩ := h
  exact ⟨g, om, since, seen, c0, hs _ h1, (hb _ ⟨_, h1, rfl⟩).trans h2, h3.mono hM⟩
 | lin e ei sz isz part hole es =>
  obtain ⟨R, B, V, h1, h2⟩ := h
  exact ⟨R, B, V, hs _ h1, h2.mono hF (fun g hg => hb g ⟨_, h1, hg⟩)⟩
mutual
theorem AV.sub_id : ∀ x : AV, x.sub id = x
 | .agg cs => by rw [AV.sub, AV.subL_id cs]
 | .tup cs => by rw [AV.sub, AV.subL_id cs]
 | .fn g cs => by rw [AV.sub, AV.subL_id cs]
 | .own .. => rfl
 | .ptr .. => rfl
 | .nm .. => rfl
 | .any => rfl
 | .v _ => rfl
 | .ro .. => rfl
 | .rp _ => rfl
 | .mp _ => rfl
 | .mq _ => rfl
theorem AV.subL_id : ∀ cs : List AV, AV.subL id cs = cs
 | [] => rfl
 | x :: r => by rw [AV.subL, AV.sub_id x, AV.subL_id r]
end
theorem AObj.sub_id (ob : AObj) : ob.sub id = ob := by
 cases ob with
 | box e cs =>
  simp only [AObj.sub]
  congr 1
  conv => rhs; rw [← List.map_id cs]
  exact List.map_congr_left fun x _ => AV.sub_id x
 | _ => rfl
def upd (σ : Nat → Option Blk) (id : Nat) (k : Option Blk) : Nat → Option Blk := fun i => if i = id then k else σ i
theorem Z0 (σ : Nat → Option Blk) (id : Nat) (k : Option Blk) : upd σ id k id = k := by simp [upd]
theorem Z9 (σ : Nat → Option Blk) {id i : Nat} (k : Option Blk) (h : i ≠ id) : upd σ id k i = σ i := by simp [upd, h]
end
end Go.Proofs.YtnehieeplbgaiacDoor.Eng
set_option linter.unusedVariables false
set_option linter.unusedSimpArgs false
namespace Go.Proofs.YtnehieeplbgaiacDoor.Eng
open Go Go.RowKit
abbrev Ext (w w' : World) : Prop := Keep (fun _ => False) w w'
theorem Ext.alloc (w : World) (o : Obj) : Ext w (w.alloc o) := ⟨rfl, rfl, rfl, by simp, fun b hb _ => Below.heap_alloc w o b hb⟩
theorem Ext.drew (w : World) : Ext w w.drew := ⟨rfl, rfl, rfl, Nat.le_refl _, fun _ _ _ => rfl⟩
section
variable {P : Program} {T : Tab} {X : Ctx} {σ σ' : Nat → Option Blk} {F F' : Nat → Prop} {s s' : St} {a : Act} {w w' : World} {o : Oper} {c : Prop} {x : AV} {v : Value} {K : St → Prop}
def opWPG (P : Program) (X : Ctx) (o : Oper) (K : St → Prop) (s : St) : Prop :=
 ∀ (Qc : Exit → Act → World → Prop) (next : Act → World → Prop) a w, (∀ s' a' w', K s' → Rep X s' a' w' → Grow w w' → next a' w') → Rep X s a w → o.wp P a w next Qc
theorem opWPG.wp (h : opWPG P X o K s) : opWP P X o K s := fun Qc next a w hn hr => h Qc next a w (fun s' a' w' h1 h2 _ => hn s' a' w' h1 h2) hr
theorem opWPG.mem (h : ∀ σ F a w, RepAt X σ F s a w → ∃ v w' σ' F' s' x, (execOp a.eval o).run P w = .ok (.value v) w' ∧ Grow w w' ∧ RepAt X σ' F' s' a w' ∧ RepV σ' F' w' x v ∧ K (s'.put o.dst x)) (hd : dOK X.n o.dst) : opWPG P X o K s := by
 rintro Qc next a w hn ⟨σ, F, hr⟩
 obtain ⟨v, w', σ', F', s', x, he, hg, hr', hv, hK⟩ := h σ F a w hr
 unfold Oper.wp
 rw [he]
 exact hn _ _ _ hK ⟨σ', F', hr'.put hd hv⟩ hg
theorem opWPG.val {x : AV} (h : ∀ σ F a w, RepAt X σ F s a w → ∃ v, (execOp a.eval o).run P w = .ok (.value v) w ∧ RepV σ F w x v) (hd : dOK X.n o.dst) (hK : K (s.put o.dst x)) : opWPG P X o K s :=
 opWPG.mem (fun σ F a w hr => by
  obtain ⟨v, h1, h2⟩ := h σ F a w hr
  exact ⟨v, w, σ, F, s, x, h1, Grow.refl w, hr, h2, hK⟩) hd
theorem Grow.alloc (w : World) (ob : Obj) : Grow w (w.alloc ob) := ⟨by unfold World.alloc; simp, fun b hb => Below.heap_alloc w ob b hb⟩
theorem opWP.mem (h : ∀ σ F a w, RepAt X σ F s a w → ∃ v w' σ' F' s' x, (execOp a.eval o).run P w = .ok (.value v) w' ∧ RepAt X σ' F' s' a w' ∧ RepV σ' F' w' x v ∧ K (s'.put o.dst x)) (hd : dOK X.n o.dst) : opWP P X o K s := by
 rintro Qc next a w hn ⟨σ, F, hr⟩
 obtain ⟨v, w', σ', F', s', x, he, hr', hv, hK⟩ := h σ F a w hr
 unfold Oper.wp
 rw [he]
 exact hn _ _ _ hK ⟨σ', F', hr'.put hd hv⟩
theorem opWP.unit (h : ∀ σ F a w, RepAt X σ F s a w → ∃ w' σ' F' s', (execOp a.eval o).run P w = .ok .skip w' ∧ RepAt X σ' F' s' a w' ∧ K (s'.put o.dst .any)) (hd : dOK X.n o.dst) : opWP P X o K s := by
 rintro Qc next a w hn ⟨σ, F, hr⟩
 obtain ⟨w', σ', F', s', he, hr', hK⟩ := h σ F a w hr
 unfold Oper.wp
 rw [he]
 exact hn _ _ _ hK ⟨σ', F', hr'.put hd (.f _ _ (.any _))⟩
theorem Keep.ext {M : Nat → Prop} {w0 : World} (h : Keep M w0 w) (k : Ext w w') : Keep M w0 w' :=
 h.trans k (fun g _ hm => ⟨hm, fun h => h⟩)
theorem RepAt.ext (hr : RepAt X σ F s a w) (k : Ext w w') : RepAt X σ F s a w' := by
 have hF : ∀ b, F b → w'.heap[b]? = w.heap[b]? := fun b hb => k.block b (hr.heap.flt b hb) (fun h => h)
 have hv : ∀ x y, RepV σ F w x y → RepV σ F w' x y := fun x y h => h.mono (fun _ h => h) hF
 refine ⟨hr.defers.keep fun D hD hn => ⟨k.block D (Z1n hD) (fun h => h), hn⟩, hr.size, fun i => hv _ _ (hr.env i), ⟨fun id ob ho => ?_, hr.heap.out, hr.heap.inj, fun id g h => ?_, fun b hb => Nat.lt_of_lt_of_le (hr.heap.flt b hb) k.size, hr.heap.lay.mono (fun _ h => h) hF⟩, hr.keep.ext k, hr.own, hr.fnew, hr.stab, hr.hm⟩
 ·rw [← AObj.sub_id ob]
  exact (hr.heap.obj id ob ho).move (fun _ h => h) (fun h => h) (fun x y h => h.mono (fun _ h => h) hF) (fun b hb => ⟨hb, hF b hb⟩) (fun g h => k.block g (hr.heap.lt _ _ h).1 (fun h => h)) (fun x y h => by rw [AV.sub_id]; exact hv x y h)
 ·exact ⟨Nat.lt_of_lt_of_le (hr.heap.lt id g h).1 k.size, (hr.heap.lt id g h).2⟩
theorem Z43 {id g : Nat} {k : Option Blk} : hasB (upd σ id k) id g ↔ ∃ q, k = some q ∧ q.has g := by unfold hasB; rw [Z0]
theorem Z2b {id i g : Nat} {k : Option Blk} (h : i ≠ id) : hasB (upd σ id k) i g ↔ hasB σ i g := by unfold hasB; rw [Z9 _ _ h]
theorem RepAt.new2 (hr : RepAt X σ F s a w) {k : Blk} {ob : AObj} (hob : RepO (upd σ s.heap.length (some k)) F w s.heap.length ob)
  (hk : ∀ g, k.has g → g < w.heap.size ∧ ¬ F g ∧ (X.M g ∨ X.w0.heap.size ≤ g) ∧ ∀ id, ¬ hasB σ id g) : RepAt X (upd σ s.heap.length (some k)) F { s with heap := s.heap ++ [ob] } a w := by
 have hnone := hr.heap.out s.heap.length (Nat.le_refl _)
 have hs : ∀ id k', σ id = some k' → upd σ s.heap.length (some k) id = some k' := fun id k' h => by
  rw [Z9]
  ·exact h
  ·rintro rfl; rw [hnone] at h; cases h
 have hcase : ∀ id g, hasB (upd σ s.heap.length (some k)) id g → (id = s.heap.length ∧ k.has g) ∨ (id ≠ s.heap.length ∧ hasB σ id g) := fun id g h => by
  by_cases e : id = s.heap.length
  ·subst e
   obtain ⟨q, h1, h2⟩ := Z43.1 h
   cases h1
   exact .inl ⟨rfl, h2⟩
  ·exact .inr ⟨e, (Z2b e).1 h⟩
 refine ⟨hr.defers, hr.size, fun i => (hr.env i).grow hs, ⟨fun id ob' ho => ?_, fun id hid => ?_, fun id id' g h1 h2 => ?_, fun id g h => ?_, hr.heap.flt, hr.heap.lay⟩, hr.keep, fun id g h => ?_, hr.fnew, fun id hid => by rw [Z9 _ _ (by have := hr.hm; omega)]; exact hr.stab id hid, by have := hr.hm; simp; omega⟩
 ·rcases Nat.lt_or_ge id s.heap.length with hlt | hge
  ·simp only [List.getElem?_append_left hlt] at ho
   rw [← AObj.sub_id ob']
   refine (hr.heap.obj id ob' ho).move (hs id) (fun h => by rw [Z9 _ _ (by omega)]; exact h) (fun _ _ h => h) (fun _ h => ⟨h, rfl⟩) (fun _ _ => rfl) (fun x y h => by rw [AV.sub_id]; exact h.grow hs)
  ·have hid : id = s.heap.length := by
    have := (List.getElem?_eq_some_iff.1 ho).1
    simp at this
    omega
   subst hid
   simp at ho
   subst ho
   exact hob
 ·simp at hid
  rw [Z9 _ _ (by omega)]
  exact hr.heap.out id (by omega)
 ·rcases hcase _ _ h1 with ⟨e1, h3⟩ | ⟨e1, h3⟩ <;> rcases hcase _ _ h2 with ⟨e2, h4⟩ | ⟨e2, h4⟩
  ·rw [e1, e2]
  ·exact absurd h4 ((hk g h3).2.2.2 _)
  ·exact absurd h3 ((hk g h4).2.2.2 _)
  ·exact hr.heap.inj _ _ _ h3 h4
 ·rcases hcase _ _ h with ⟨e1, h3⟩ | ⟨e1, h3⟩
  ·exact ⟨(hk g h3).1, (hk g h3).2.1⟩
  ·exact hr.heap.lt _ _ h3
 ·rcases hcase _ _ h with ⟨e1, h3⟩ | ⟨e1, h3⟩
  ·exact (hk g h3).2.2.1
  ·exact hr.own _ _ h3
theorem RepAt.new (hr : RepAt X σ F s a w) {k : Blk} {ob : AObj} (hob : RepO (upd σ s.heap.length (some k)) F w s.heap.length ob)
  (hk : ∀ g, k.has g → g < w.heap.size ∧ ¬ F g ∧ X.w0.heap.size ≤ g ∧ ∀ id, ¬ hasB σ id g) : RepAt X (upd σ s.heap.length (some k)) F { s with heap := s.heap ++ [ob] } a w :=
 hr.new2 hob fun g h => ⟨(hk g h).1, (hk g h).2.1, .inr (hk g h).2.2.1, (hk g h).2.2.2⟩
theorem RepAt.newBlock (hr : RepAt X σ F s a w) (e : TypeId) (cur : Array Value) {b c n : Nat} {ob : AObj}
  (hob : RepO (upd σ s.heap.length (some (.at_ w.heap.size b c n))) F (w.alloc (.cells cur e)) s.heap.length ob) :
  RepAt X (upd σ s.heap.length (some (.at_ w.heap.size b c n))) F { s with heap := s.heap ++ [ob] } a (w.alloc (.cells cur e)) := by
 refine (hr.ext (Ext.alloc w _)).new hob (fun g hk => ?_)
 have e1 : g = w.heap.size := hk
 subst e1
 refine ⟨by simp, fun hF => ?_, hr.keep.size, fun id h => ?_⟩
 ·have := hr.heap.flt _ hF; omega
 ·have := (hr.heap.lt _ _ h).1; omega
theorem RepAt.newNil (hr : RepAt X σ F s a w) (e : TypeId) (sz : Nat) : RepAt X (upd σ s.heap.length (some .nil)) F { s with heap := s.heap ++ [.row e sz []] } a w :=
 hr.new (.inl ⟨Z0 _ _ _, rfl⟩) (fun g h => h.elim)
def cellsOf : AV → List AV
 | .agg cs => cs
 | x => [x]
def AV.full : AV → Bool
 | .agg _ => true
 | x => x.one
theorem RepV.cells (h : RepV σ F w x v) (hf : x.full = true) : v.cells.toList.length = (cellsOf x).length ∧ (∀ u ∈ v.cells.toList, u.oneCell' = true) ∧ ∀ (j : Nat) (z : AV) (u : Value), (cellsOf x)[j]? = some z → v.cells.toList[j]? = some u → RepV σ F w z u := by
 by_cases ha : ∃ cs, x = .agg cs
 ·obtain ⟨cs, rfl⟩ := ha
  obtain ⟨vs, rfl, hl, h1, h2⟩ := h.aggv
  exact ⟨by simp [Value.cells, cellsOf, hl], by simpa [Value.cells] using h1, by simpa [Value.cells, cellsOf] using h2⟩
 ·have h1 : x.one = true := by
   cases x <;> first | exact hf | exact absurd ⟨_, rfl⟩ ha
  have hc : cellsOf x = [x] := by
   cases x <;> first | rfl | exact absurd ⟨_, rfl⟩ ha
  have h2 := h.one h1
  have hv : v.cells = #[v] := by
   cases v <;> first | rfl | (simp [Value.oneCell'] at h2)
  rw [hv, hc]
  refine ⟨rfl, by simpa using h2, fun j z u hz hu => ?_⟩
  cases j with
  | zero => simp at hz hu; subst hz hu; exact h
  | succ j => simp at hz
theorem Zgn {e : Nat} (ho : o.op = .alloc e) (hT : Zh P T) {i : TI} (hi : T e = some i) (hd : dOK X.n o.dst)
  (hK : K (St.put { s with heap := s.heap ++ [.box e (i.zero.cells.toList.map .v)] } o.dst (.ptr s.heap.length 0 i.size 0))) : opWPG P X o K s := by
 refine opWPG.mem (fun σ F a w hr => ?_) hd
 have hz := hT _ _ hi
 refine ⟨.pointer (some ⟨w.heap.size, 0, none⟩), w.alloc (.cells i.zero.cells e), _, F, _, _, ?_, Grow.alloc w _, hr.newBlock e i.zero.cells (b := 0) (c := 1) (n := 1) ?_, ?_, hK⟩
 ·simp [execOp, ho, Instr.alloc, hz.zero_run, newVar, newRow, newObj, Sem.run]
 ·refine ⟨w.heap.size, i.zero.cells.toList, Z0 _ _ _, by simpa using heap_alloc_new w _, by simp, fun u hu => List.all_eq_true.1 hz.one u hu, fun j x u hx hu => ?_⟩
  rw [List.getElem?_map, Option.map_eq_some_iff] at hx
  obtain ⟨q, hq, rfl⟩ := hx
  rw [hq] at hu
  injection hu with hu
  subst hu
  exact .f _ _ (.v _)
 ·have := RepV.ptr (σ := upd σ s.heap.length (some (.at_ w.heap.size 0 1 1))) (F := F) (w := w.alloc (.cells i.zero.cells e)) s.heap.length 0 i.size 0 w.heap.size 0 1 1 (Z0 _ _ _)
  simpa using this
theorem op_boxG {e : Nat} {y : Operand} (ho : o.op = .box e y) (hf : (s.ev y).full = true) (hd : dOK X.n o.dst)
  (hK : K (St.put { s with heap := s.heap ++ [.box e (cellsOf (s.ev y))] } o.dst (.ptr s.heap.length 0 0 0))) : opWPG P X o K s := by
 refine opWPG.mem (fun σ F a w hr => ?_) hd
 obtain ⟨h1, h2, h3⟩ := RepV.cells (hr.ev y) hf
 refine ⟨.pointer (some ⟨w.heap.size, 0, none⟩), w.alloc (.cells (a.eval y).cells e), _, F, _, _, ?_, Grow.alloc w _, hr.newBlock e (a.eval y).cells (b := 0) (c := 1) (n := 1) ?_, ?_, hK⟩
 ·simp [execOp, ho, Instr.box, newVar, newRow, newObj, Sem.run]
 ·refine ⟨w.heap.size, (a.eval y).cells.toList, Z0 _ _ _, by simpa using heap_alloc_new w _, h1.symm, h2, fun j x u hx hu => ?_⟩
  refine ((h3 j x u hx hu).mono (F' := F) (w' := w.alloc (.cells (a.eval y).cells e)) (fun _ h => h) (fun b hb => Below.heap_alloc w _ b (hr.heap.flt b hb))).grow (fun id k h => ?_)
  rw [Z9]
  ·exact h
  ·rintro rfl; rw [hr.heap.out _ (Nat.le_refl _)] at h; cases h
 ·have := RepV.ptr (σ := upd σ s.heap.length (some (.at_ w.heap.size 0 1 1))) (F := F) (w := w.alloc (.cells (a.eval y).cells e)) s.heap.length 0 0 0 w.heap.size 0 1 1 (Z0 _ _ _)
  simpa using this
end
end Go.Proofs.YtnehieeplbgaiacDoor.Eng
set_option linter.unusedVariables false
set_option linter.unusedSimpArgs false
namespace Go.Proofs.YtnehieeplbgaiacDoor.Eng
open Go Go.RowKit
mutual
def AV.flat : AV → Bool
 | .any | .v _ | .ro .. | .rp _ | .mp _ | .mq _ => true
 | .fn _ cs => AV.flatL cs
 | _ => false
def AV.flatL : List AV → Bool
 | [] => true
 | x :: r => x.flat && x.one && AV.flatL r
end
theorem AV.flatL_get : ∀ {l : List AV} {j : Nat} {x : AV}, AV.flatL l = true → l[j]? = some x → x.flat = true
 | y :: r, 0, x, h, hx => by simp at hx; subst hx; simp only [AV.flatL, Bool.and_eq_true] at h; exact h.1.1
 | y :: r, j + 1, x, h, hx => by simp only [AV.flatL, Bool.and_eq_true] at h; exact AV.flatL_get h.2 (by simpa using hx)
section
variable {P : Program} {T : Tab} {X : Ctx} {σ σ' : Nat → Option Blk} {F F' : Nat → Prop} {s s' : St} {a : Act} {w w' : World} {o : Oper} {c : Prop} {x : AV} {v : Value} {K : St → Prop}
theorem RepV.toF (h : RepV σ F w x v) (hf : x.flat = true) : RepF F w x v := by
 induction h with
 | f _ _ h => exact h
 | fn f cs vs hl h ih =>
  simp only [AV.flat] at hf
  exact .fn f cs vs hl (fun j x u hx hu => ih j x u hx hu (AV.flatL_get hf hx))
 | _ => simp [AV.flat] at hf
theorem Z7o (off : Nat) : ∀ (vs : List Value) (k : Nat) (cs : Array Value), ((vs.zipIdx k).foldl (fun cs (p : Value × Nat) => cs.setIfInBounds (off + p.2) p.1) cs).size = cs.size ∧
  ∀ q, ((vs.zipIdx k).foldl (fun cs (p : Value × Nat) => cs.setIfInBounds (off + p.2) p.1) cs)[q]? = if off + k ≤ q ∧ q < off + k + vs.length ∧ q < cs.size then vs[q - (off + k)]? else cs[q]?
 | [], k, cs => ⟨rfl, fun q => by rw [if_neg (by simp; omega)]; rfl⟩
 | v :: r, k, cs => by
  obtain ⟨h1, h2⟩ := Z7o off r (k + 1) (cs.setIfInBounds (off + k) v)
  have hz : (cs.setIfInBounds (off + k) v).size = cs.size := Array.size_setIfInBounds
  simp only [List.zipIdx_cons, List.foldl_cons]
  refine ⟨by rw [h1, hz], fun q => ?_⟩
  rw [h2, hz, List.length_cons]
  by_cases e : q = off + k
  ·subst e
   have e1 : (cs.setIfInBounds (off + k) v)[off + k]? = if off + k < cs.size then some v else none := by simp [Array.getElem?_setIfInBounds]
   rw [if_neg (by omega), e1]
   by_cases hl : off + k < cs.size
   ·rw [if_pos hl, if_pos (by omega)]; simp
   ·rw [if_neg hl, if_neg (by omega), Array.getElem?_eq_none (by omega)]
  ·by_cases hin : off + (k + 1) ≤ q ∧ q < off + (k + 1) + r.length ∧ q < cs.size
   ·rw [if_pos hin, if_pos (by omega)]
    rw [show q - (off + k) = (q - (off + (k + 1))) + 1 by omega, List.getElem?_cons_succ]
   ·rw [if_neg hin, if_neg (by omega), Array.getElem?_setIfInBounds, if_neg (by omega)]
theorem Ze9 (size : Nat) : ∀ (ps : List (Nat × Value)) (k : Nat) (cs : Array Value), ps.map (·.1) = List.range' k ps.length → (∀ p ∈ ps, p.2.cells.size = size) → (k + ps.length) * size ≤ cs.size →
  ∃ cs', Instr.fill (fun i => some (i * size, size)) cs ps = some cs' ∧ cs'.size = cs.size ∧ (∀ q, q < k * size → cs'[q]? = cs[q]?) ∧
   ∀ i p j, ps[i]? = some p → j < size → cs'[(k + i) * size + j]? = p.2.cells[j]?
 | [], k, cs, _, _, _ => ⟨cs, rfl, rfl, fun _ _ => rfl, fun i p j h => by simp at h⟩
 | (i0, v) :: r, k, cs, hi, hs, hl => by
  simp only [List.map_cons, List.length_cons, List.range'_succ, List.cons.injEq] at hi
  obtain ⟨rfl, hi⟩ := hi
  simp only [List.length_cons] at hl
  have hv : v.cells.size = size := hs _ (List.mem_cons_self)
  have hle : i0 * size + size ≤ cs.size := by
   refine Nat.le_trans ?_ hl
   rw [← Nat.succ_mul]
   exact Nat.mul_le_mul_right _ (by omega)
  obtain ⟨h1, h2⟩ := Z7o (i0 * size) v.cells.toList 0 cs
  have hz : v.cells.zipIdx.foldl (fun cs (p : Value × Nat) => cs.setIfInBounds (i0 * size + p.2) p.1) cs = (v.cells.toList.zipIdx 0).foldl (fun cs (p : Value × Nat) => cs.setIfInBounds (i0 * size + p.2) p.1) cs := by
   rw [← Array.foldl_toList, Array.toList_zipIdx]
  obtain ⟨cs', h3, h4, h5, h6⟩ := Ze9 size r (i0 + 1) ((v.cells.toList.zipIdx 0).foldl (fun cs (p : Value × Nat) => cs.setIfInBounds (i0 * size + p.2) p.1) cs) hi (fun p hp => hs p (List.mem_cons_of_mem _ hp))
   (by rw [h1]; refine Nat.le_trans (Nat.le_of_eq ?_) hl; congr 1; omega)
  refine ⟨cs', ?_, by rw [h4, h1], fun q hq => ?_, fun i p j hp hj => ?_⟩
  ·simp only [Instr.fill]
   rw [if_neg (by rw [hv]; simp; omega)]
   exact hz ▸ h3
  ·rw [h5 q (by rw [Nat.add_mul]; omega), h2, if_neg (by omega)]
  ·cases i with
   | zero =>
    simp at hp
    subst hp
    rw [Nat.add_zero, h5 _ (by rw [Nat.succ_mul]; omega), h2, if_pos (by simp; omega)]
    simp
   | succ i =>
    rw [show i0 + (i + 1) = i0 + 1 + i by omega]
    exact h6 i p j (by simpa using hp) hj
theorem Z88 {t len e : Nat} {parts : Array (Nat × Value)} (hu : P.underlying t = some (.slice e)) {i : TI} (hz : TIOk P e i) (h24 : len * i.size ≤ 16777216) {cs' : Array Value}
  (h1 : Instr.fill (fun k => some (k * i.size, i.size)) ((Array.range (len * i.size)).map ((if len * i.size = 0 then #[] else i.zero.cells)[· % (if len * i.size = 0 then #[] else i.zero.cells).size]!)) parts.toList = some cs') :
  (Instr.buildSlice t len parts).run P w = .ok (.slice (some ⟨w.heap.size, 0, none⟩) len len) (w.alloc (.cells cs' e)) := by
 simp only [Instr.buildSlice, Sem.run_bind, run_underlying hu, Result.andThen_ok, hz.size_run]
 rw [if_neg (by omega)]
 by_cases h0 : len * i.size = 0
 ·simp only [if_pos h0] at h1
  rw [if_pos h0]
  simp only [Sem.run_bind, Sem.run_pure, Result.andThen_ok, h1]
  simp [newRow, newObj, Sem.run]
 ·simp only [if_neg h0] at h1
  rw [if_neg h0]
  simp only [Sem.run_bind, Sem.run_pure, hz.zero_run, Result.andThen_ok, h1]
  simp [newRow, newObj, Sem.run]
def rowOK (size : Nat) (xs : List AV) : Prop := ∀ x ∈ xs, x.full = true ∧ (cellsOf x).length = size ∧ (cellsOf x).all AV.flat = true
theorem Z8a {t len e : Nat} {parts : Array (Nat × Operand)} (ho : o.op = .buildSlice t len parts) (hT : Zh P T) {m p : Nat} {z : Value} (ht : T t = some ⟨.slice e, m, p, z⟩) {i : TI} (hi : T e = some i)
  (hix : parts.toList.map (·.1) = List.range len) (hok : rowOK i.size (parts.toList.map fun q => s.ev q.2)) (hsz : 0 < i.size) (hlen : len * i.size ≤ 16777216) (hd : dOK X.n o.dst)
  (hK : K (St.put { s with heap := s.heap ++ [.row e i.size (parts.toList.map fun q => cellsOf (s.ev q.2))] } o.dst (.own s.heap.length i.size 0 len))) : opWPG P X o K s := by
 refine opWPG.mem (fun σ F a w hr => ?_) hd
 have hu : P.underlying t = some (.slice e) := (hT _ _ ht).kind
 have hz := hT _ _ hi
 have hpl : parts.toList.length = len := by have := congrArg List.length hix; simpa using this
 let ps : List (Nat × Value) := parts.toList.map fun q => (q.1, a.eval q.2)
 have hpsl : ps.length = len := by simp [ps, hpl]
 have hcells : ∀ q ∈ parts.toList, (a.eval q.2).cells.toList.length = (cellsOf (s.ev q.2)).length ∧ (∀ u ∈ (a.eval q.2).cells.toList, u.oneCell' = true) ∧ ∀ (j : Nat) (z : AV) (u : Value), (cellsOf (s.ev q.2))[j]? = some z → (a.eval q.2).cells.toList[j]? = some u → RepV σ F w z u :=
  fun q hq => RepV.cells (hr.ev q.2) (hok _ (List.mem_map_of_mem hq)).1
 have hsize : ∀ q ∈ parts.toList, (cellsOf (s.ev q.2)).length = i.size := fun q hq => (hok _ (List.mem_map_of_mem hq)).2.1
 let cs0 : Array Value := (Array.range (len * i.size)).map ((if len * i.size = 0 then #[] else i.zero.cells)[· % (if len * i.size = 0 then #[] else i.zero.cells).size]!)
 obtain ⟨cs', h1, h2, _, h4⟩ := Ze9 i.size ps 0 cs0 (by simp only [ps, List.map_map, List.length_map, hpl]; rw [← List.range_eq_range', ← hix]; rfl) (fun q hq => by
   simp only [ps, List.mem_map] at hq
   obtain ⟨q', hq', rfl⟩ := hq
   have := (hcells q' hq').1
   rw [hsize q' hq'] at this
   simpa using this) (by simp [hpsl, cs0])
 have hcs : cs'.size = len * i.size := by rw [h2]; simp [cs0]
 refine ⟨.slice (some ⟨w.heap.size, 0, none⟩) len len, w.alloc (.cells cs' e), _, F, _, _, ?_, Grow.alloc w _, hr.newBlock e cs' (b := 0) (c := len) (n := len) ?_, ?_, hK⟩
 ·have hps : (parts.map fun q => (q.1, a.eval q.2)).toList = ps := by simp [ps]
  simp only [execOp, ho, Sem.run_bind, Z88 hu hz (by omega) (hps ▸ h1), Result.andThen_ok, Sem.run_pure]
 ·refine .inr ⟨w.heap.size, 0, len, cs', by rw [Z0]; simp [hpl], by simp [hpl], by simp only [maxLen]; have := Nat.le_mul_of_pos_right len hsz; omega, by simpa using heap_alloc_new w _, by simpa using hcs, fun cs hcs => ?_, fun j cs q x hj hq => ?_⟩
  ·simp only [List.mem_map] at hcs
   obtain ⟨q, hq, rfl⟩ := hcs
   exact hsize q hq
  ·rw [List.getElem?_map, Option.map_eq_some_iff] at hj
   obtain ⟨pt, hpt, rfl⟩ := hj
   have hmem : pt ∈ parts.toList := List.mem_of_getElem? hpt
   obtain ⟨h5, h6, h7⟩ := hcells pt hmem
   have hql : q < i.size := by have := (List.getElem?_eq_some_iff.1 hq).1; rw [hsize pt hmem] at this; exact this
   have h8 := h4 j (pt.1, a.eval pt.2) q (by simp only [ps]; rw [List.getElem?_map, hpt]; rfl) hql
   have hlt : q < (a.eval pt.2).cells.toList.length := by rw [h5, hsize pt hmem]; exact hql
   have hget : (a.eval pt.2).cells[q]? = some ((a.eval pt.2).cells.toList[q]) := by rw [← Array.getElem?_toList, List.getElem?_eq_getElem hlt]
   refine ⟨_, h8.trans hget, h6 _ (List.getElem_mem hlt), ?_⟩
   have hf : x.flat = true := List.all_eq_true.1 (hok _ (List.mem_map_of_mem hmem)).2.2 x (List.mem_of_getElem? hq)
   exact ((h7 q x _ hq (List.getElem?_eq_getElem hlt)).toF hf).mono (fun _ h => h) (fun b hb => Below.heap_alloc w _ b (hr.heap.flt b hb))
 ·have := RepV.own (σ := upd σ s.heap.length (some (.at_ w.heap.size 0 len len))) (F := F) (w := w.alloc (.cells cs' e)) s.heap.length i.size 0 len w.heap.size 0 len len (Z0 _ _ _) (by simp) (Nat.le_refl _)
  simpa using this
end
end Go.Proofs.YtnehieeplbgaiacDoor.Eng
set_option linter.unusedVariables false
set_option linter.unusedSimpArgs false
namespace Go.Proofs.YtnehieeplbgaiacDoor.Eng
open Go Go.RowKit
def Z2m (T : Tab) : List (Nat × Nat) → Option (List (Nat × Nat))
 | [] => some []
 | (off, ft) :: r => match T ft, Z2m T r with
  | some i, some l => some ((off, i.size) :: l)
  | _, _ => none
def putA (cs : List AV) (off : Nat) (xs : List AV) : List AV := cs.take off ++ xs ++ cs.drop (off + xs.length)
def Z5s (pl : List (Nat × Nat)) : List AV → List (Nat × AV) → Option (Prop × List AV)
 | cs, [] => some (True, cs)
 | cs, (i, x) :: r => match pl[i]? with
  | none => none
  | some (off, size) => match Z5s pl (putA cs off (cellsOf x)) r with
   | some (c, cs') => some ((x.full = true ∧ (cellsOf x).length = size ∧ off + size ≤ cs.length) ∧ c, cs')
   | none => none
section
variable {P : Program} {T : Tab} {X : Ctx} {σ σ' : Nat → Option Blk} {F F' : Nat → Prop} {s s' : St} {a : Act} {w w' : World} {o : Oper} {c : Prop} {x : AV} {v : Value} {K : St → Prop}
theorem Zb8 (hT : Zh P T) : ∀ (fs : List Field) (l pl : List (Nat × Nat)), fs.map (fun f => (f.offset, f.type)) = l → Z2m T l = some pl → fs.mapM (fun f => (P.info? f.type).map fun i => (f.offset, i.size)) = some pl
 | [], l, pl, hl, h => by subst hl; simp [Z2m] at h; subst h; rfl
 | f :: fs, l, pl, hl, h => by
  subst hl
  simp only [List.map_cons, Z2m] at h
  split at h
  ·rename_i i l' hi hl'
   injection h with h
   subst h
   obtain ⟨q, hq, hh⟩ := Option.map_eq_some_iff.1 (hT _ _ hi).info
   simp only [Prod.mk.injEq] at hh
   simp [List.mapM_cons, hq, Zb8 hT fs _ l' rfl hl', hh.2.1]
  ·cases h
def CellsOk (σ : Nat → Option Blk) (F : Nat → Prop) (w : World) (cs : List AV) (vs : List Value) : Prop :=
 cs.length = vs.length ∧ (∀ u ∈ vs, u.oneCell' = true) ∧ ∀ (j : Nat) (x : AV) (u : Value), cs[j]? = some x → vs[j]? = some u → RepV σ F w x u
theorem CellsOk.get {cs : List AV} {vs : List Value} (h : CellsOk σ F w cs vs) {j : Nat} {x : AV} (hj : cs[j]? = some x) : ∃ u, vs[j]? = some u ∧ u.oneCell' = true ∧ RepV σ F w x u := by
 have hl : j < vs.length := by have := (List.getElem?_eq_some_iff.1 hj).1; have := h.1; omega
 exact ⟨_, List.getElem?_eq_getElem hl, h.2.1 _ (List.getElem_mem hl), h.2.2 j x _ hj (List.getElem?_eq_getElem hl)⟩
theorem Z9h (cs xs : List AV) (off j : Nat) (h : off + xs.length ≤ cs.length) : (putA cs off xs)[j]? = if off ≤ j ∧ j < off + xs.length then xs[j - off]? else cs[j]? := by
 unfold putA
 rw [List.append_assoc]
 rcases Nat.lt_or_ge j off with h1 | h1
 ·rw [List.getElem?_append_left (by simp; omega), List.getElem?_take, if_pos h1, if_neg (by omega)]
 ·rw [List.getElem?_append_right (by simp; omega)]
  have hl : (cs.take off).length = off := by simp; omega
  rw [hl]
  rcases Nat.lt_or_ge j (off + xs.length) with h2 | h2
  ·rw [List.getElem?_append_left (by omega), if_pos ⟨h1, h2⟩]
  ·rw [List.getElem?_append_right (by omega), if_neg (by omega), List.getElem?_drop]
   congr 1; omega
theorem CellsOk.put {cs : List AV} {vs : List Value} (h : CellsOk σ F w cs vs) (hx : RepV σ F w x v) (hf : x.full = true) (off : Nat) (hb : off + (cellsOf x).length ≤ cs.length) :
  CellsOk σ F w (putA cs off (cellsOf x)) (v.cells.zipIdx.foldl (fun cs (p : Value × Nat) => cs.setIfInBounds (off + p.2) p.1) vs.toArray).toList := by
 obtain ⟨h1, h2, h3⟩ := hx.cells hf
 have hz : v.cells.zipIdx.foldl (fun cs (p : Value × Nat) => cs.setIfInBounds (off + p.2) p.1) vs.toArray = (v.cells.toList.zipIdx 0).foldl (fun cs (p : Value × Nat) => cs.setIfInBounds (off + p.2) p.1) vs.toArray := by
  rw [← Array.foldl_toList, Array.toList_zipIdx]
 obtain ⟨h4, h5⟩ := Z7o off v.cells.toList 0 vs.toArray
 rw [hz]
 have hget : ∀ j, ((v.cells.toList.zipIdx 0).foldl (fun cs (p : Value × Nat) => cs.setIfInBounds (off + p.2) p.1) vs.toArray).toList[j]? = if off ≤ j ∧ j < off + (cellsOf x).length then v.cells.toList[j - off]? else vs[j]? := fun j => by
  rw [Array.getElem?_toList, h5, Nat.add_zero, h1]
  have := h.1
  by_cases hc : off ≤ j ∧ j < off + (cellsOf x).length
  ·rw [if_pos ⟨hc.1, hc.2, by simp; omega⟩, if_pos hc]
  ·rw [if_neg (fun hh => hc ⟨hh.1, hh.2.1⟩), if_neg hc]; simp
 refine ⟨?_, fun u hu => ?_, fun j y u hj hu => ?_⟩
 ·have h6 : ((v.cells.toList.zipIdx 0).foldl (fun cs (p : Value × Nat) => cs.setIfInBounds (off + p.2) p.1) vs.toArray).toList.length = vs.length := by
   rw [Array.length_toList (xs := (v.cells.toList.zipIdx 0).foldl (fun cs (p : Value × Nat) => cs.setIfInBounds (off + p.2) p.1) vs.toArray), h4]; simp
  rw [h6]
  have := h.1
  simp [putA]; omega
 ·obtain ⟨j, hj⟩ := List.getElem?_of_mem hu
  rw [hget] at hj
  split at hj
  ·exact h2 u (List.mem_of_getElem? hj)
  ·exact h.2.1 u (List.mem_of_getElem? hj)
 ·rw [hget] at hu
  rw [Z9h _ _ _ _ hb] at hj
  split at hj
  ·rename_i hc; rw [if_pos hc] at hu; exact h3 _ y u hj hu
  ·rename_i hc; rw [if_neg hc] at hu; exact h.2.2 j y u hj hu
theorem Zea {pl : List (Nat × Nat)} : ∀ (ps : List (Nat × AV)) (pv : List (Nat × Value)) (cs : List AV) (vs : List Value) (cs' : List AV) (c : Prop), ps.length = pv.length → (∀ (j : Nat) p q, ps[j]? = some p → pv[j]? = some q → p.1 = q.1 ∧ RepV σ F w p.2 q.2) → CellsOk σ F w cs vs →
  Z5s pl cs ps = some (c, cs') → c → ∃ vs' : List Value, Instr.fill (pl.toArray[·]?) vs.toArray pv = some vs'.toArray ∧ CellsOk σ F w cs' vs'
 | [], [], cs, vs, cs', c, _, _, h, hb, _ => by
  simp [Z5s] at hb
  obtain ⟨_, rfl⟩ := hb
  exact ⟨vs, rfl, h⟩
 | (i, x) :: ps, (i', v) :: pv, cs, vs, cs', c, hl, hr, h, hb, hc => by
  obtain ⟨he, hx⟩ := hr 0 _ _ rfl rfl
  simp only at he hx
  subst he
  simp only [Z5s] at hb
  split at hb
  ·cases hb
  ·rename_i off size hp
   split at hb
   ·rename_i c' cs'' hb'
    injection hb with hb
    simp only [Prod.mk.injEq] at hb
    obtain ⟨rfl, rfl⟩ := hb
    obtain ⟨⟨hf, hlen, hle⟩, hc'⟩ := hc
    obtain ⟨vs', h1, h2⟩ := Zea ps pv _ _ cs'' c' (by simpa using hl) (fun j p q hp hq => hr (j + 1) p q (by simpa using hp) (by simpa using hq)) (h.put hx hf off (by omega)) hb' hc'
    refine ⟨vs', ?_, h2⟩
    have hv : v.cells.size = size := by have := (hx.cells hf).1; rw [hlen] at this; simpa using this
    simp only [Instr.fill, List.getElem?_toArray, hp]
    rw [if_neg (by rw [hv]; have := h.1; simp; omega)]
    simpa using h1
   ·cases hb
theorem Z6g {t : Nat} {parts : Array (Nat × Operand)} (ho : o.op = .build t parts) (hT : Zh P T) {fs : List (Nat × Nat)} {m p : Nat} {z : Value} (ht : T t = some ⟨.struct fs, m, p, z⟩) {pl : List (Nat × Nat)} (hpl : Z2m T fs = some pl) {cs : List AV}
  (hb : Z5s pl (z.cells.toList.map .v) (parts.toList.map fun q => (q.1, s.ev q.2)) = some (c, cs)) (hc : c) : ∀ σ F a w, RepAt X σ F s a w → ∃ v, (∀ w', (execOp a.eval o).run P w' = .ok (.value v) w') ∧ RepV σ F w (.agg cs) v := by
 intro σ F a w hr
 have hz := hT _ _ ht
 obtain ⟨ar, hu, hm⟩ := hz.kind
 obtain ⟨it, hit, hh⟩ := Option.map_eq_some_iff.1 hz.info
 simp only [Prod.mk.injEq] at hh
 obtain ⟨vs', h1, h2, h3, h4⟩ := Zea (σ := σ) (F := F) (w := w) (parts.toList.map fun q => (q.1, s.ev q.2)) (parts.toList.map fun q => (q.1, a.eval q.2)) (z.cells.toList.map .v) z.cells.toList cs c (by simp) (fun j p q hp hq => by
   rw [List.getElem?_map, Option.map_eq_some_iff] at hp hq
   obtain ⟨p', hp', rfl⟩ := hp
   obtain ⟨q', hq', rfl⟩ := hq
   rw [hp'] at hq'
   injection hq' with hq'
   subst hq'
   exact ⟨rfl, hr.ev _⟩) ⟨by simp, fun u hu => List.all_eq_true.1 hz.one u hu, fun j x u hx hu => by
    rw [List.getElem?_map, Option.map_eq_some_iff] at hx
    obtain ⟨q, hq, rfl⟩ := hx
    rw [hq] at hu
    injection hu with hu
    subst hu
    exact .f _ _ (.v _)⟩ hb hc
 refine ⟨.agg vs'.toArray, fun w' => ?_, .agg cs vs' h2 h3 h4⟩
 have hbuilt : P.built t (parts.map fun q => (q.1, a.eval q.2)).toList = some vs'.toArray := by
  simp only [Program.built, hit, hu, hh.1, Zb8 hT _ _ _ hm hpl]
  simpa using h1
 simp [execOp, ho, run_build w' t _ _ hbuilt]
theorem Zgm {t : Nat} {parts : Array (Nat × Operand)} (ho : o.op = .build t parts) (hT : Zh P T) {fs : List (Nat × Nat)} {m p : Nat} {z : Value} (ht : T t = some ⟨.struct fs, m, p, z⟩) {pl : List (Nat × Nat)} (hpl : Z2m T fs = some pl) {cs : List AV}
  (hb : Z5s pl (z.cells.toList.map .v) (parts.toList.map fun q => (q.1, s.ev q.2)) = some (c, cs)) (hc : c) (hd : dOK X.n o.dst) (hK : K (s.put o.dst (.agg cs))) : opWPG P X o K s := by
 exact opWPG.val (fun σ F a w hr => by
  obtain ⟨v, h1, h2⟩ := Z6g ho hT ht hpl hb hc σ F a w hr
  exact ⟨v, h1 w, h2⟩) hd hK
end
end Go.Proofs.YtnehieeplbgaiacDoor.Eng
set_option linter.unusedVariables false
set_option linter.unusedSimpArgs false
namespace Go.Proofs.YtnehieeplbgaiacDoor.Eng
open Go Go.RowKit
section
variable {P : Program} {T : Tab} {X : Ctx} {σ σ' : Nat → Option Blk} {F F' : Nat → Prop} {s s' : St} {a : Act} {w w' : World} {o : Oper} {c : Prop} {x : AV} {v : Value} {K : St → Prop}
theorem RepAt.change (hr : RepAt X σ F s a w) {id : Nat} (hid : id < s.heap.length) {k : Option Blk} {f : AV → AV} {ob : AObj} (ho : w'.os = w.os) (ht : w'.tape = w.tape) (hp : w'.output = w.output) (hz : w.heap.size ≤ w'.heap.size)
  (hblk : ∀ g, g < w.heap.size → ¬ hasB σ id g → w'.heap[g]? = w.heap[g]?) (hF : ∀ b, F b → F' b) (hF' : ∀ b, F' b → F b ∨ hasB σ id b)
  (hk : ∀ q g, k = some q → q.has g → g < w'.heap.size ∧ ¬ F' g ∧ (hasB σ id g ∨ w.heap.size ≤ g))
  (hfo : ∀ i sz off len y, RepV σ F w (.own i sz off len) y → RepV (upd σ id k) F' w' (f (.own i sz off len)) y) (hfp : ∀ i q sz j y, RepV σ F w (.ptr i q sz j) y → RepV (upd σ id k) F' w' (f (.ptr i q sz j)) y)
  (hfn : ∀ i q y, RepV σ F w (.nm i q) y → RepV (upd σ id k) F' w' (f (.nm i q)) y)
  (hst : id < X.m → k = σ id ∨ k = none) (hob : RepO (upd σ id k) F' w' id ob) : RepAt X (upd σ id k) F' ⟨Zo f s.env, (s.heap.map (AObj.sub f)).set id ob⟩ a w' := by
 have hFw : ∀ b, F b → w'.heap[b]? = w.heap[b]? := fun b hb => hblk b (hr.heap.flt b hb) (fun h => (hr.heap.lt _ _ h).2 hb)
 have hRF : ∀ x y, RepF F w x y → RepF F' w' x y := fun x y h => h.mono hF hFw
 have hRV : ∀ x y, RepV σ F w x y → RepV (upd σ id k) F' w' (x.sub f) y := fun x y h => h.sub hRF hfo hfp hfn
 have hne : ∀ i g, i ≠ id → hasB σ i g → ¬ hasB σ id g := fun i g hi h h' => hi (hr.heap.inj _ _ _ h h')
 have hcase : ∀ i g, hasB (upd σ id k) i g → (i = id ∧ g < w'.heap.size ∧ ¬ F' g ∧ (hasB σ id g ∨ w.heap.size ≤ g)) ∨ (i ≠ id ∧ hasB σ i g) := fun i g h => by
  by_cases e : i = id
  ·subst e
   obtain ⟨q, h1, h2⟩ := Z43.1 h
   exact .inl ⟨rfl, hk q g h1 h2⟩
  ·exact .inr ⟨e, (Z2b e).1 h⟩
 refine ⟨hr.defers.keep fun D hD hn => ⟨hblk D (Z1n hD) (fun h => hr.heap.nodef h hD), fun h => (hF' D h).elim hn (fun h => hr.heap.nodef h hD)⟩, hr.size, fun i => by rw [Zn]; exact hRV _ _ (hr.env i), ⟨fun i q hq => ?_, fun i hi => ?_, fun i i' g h1 h2 => ?_, fun i g h => ?_, fun b hb => ?_, hr.heap.lay.mono hF hFw⟩, ?_, fun i g h => ?_, fun b hb => ?_, fun i hi => ?_, by have := hr.hm; simp; omega⟩
 ·by_cases hi : i = id
  ·subst hi
   rw [List.getElem?_set_self (by simpa using hid)] at hq
   injection hq with hq
   subst hq
   exact hob
  ·rw [List.getElem?_set_ne (by omega), List.getElem?_map, Option.map_eq_some_iff] at hq
   obtain ⟨q', hq', rfl⟩ := hq
   refine (hr.heap.obj i q' hq').move (fun k' h => by rw [Z9 _ _ hi]; exact h) (fun h => by rw [Z9 _ _ hi]; exact h) hRF (fun b hb => ⟨hF b hb, hFw b hb⟩) (fun g h => hblk g (hr.heap.lt _ _ h).1 (hne i g hi h)) hRV
 ·simp at hi
  rw [Z9 _ _ (by omega)]
  exact hr.heap.out i hi
 ·rcases hcase _ _ h1 with ⟨e1, g1, g2, g3⟩ | ⟨e1, h3⟩ <;> rcases hcase _ _ h2 with ⟨e2, g4, g5, g6⟩ | ⟨e2, h4⟩
  ·rw [e1, e2]
  ·rcases g3 with h5 | h5
   ·exact absurd h5 (hne _ _ e2 h4)
   ·have := (hr.heap.lt _ _ h4).1; omega
  ·rcases g6 with h5 | h5
   ·exact absurd h5 (hne _ _ e1 h3)
   ·have := (hr.heap.lt _ _ h3).1; omega
  ·exact hr.heap.inj _ _ _ h3 h4
 ·rcases hcase _ _ h with ⟨e1, g1, g2, g3⟩ | ⟨e1, h3⟩
  ·exact ⟨g1, g2⟩
  ·have h1 := hr.heap.lt _ _ h3
   refine ⟨Nat.lt_of_lt_of_le h1.1 hz, fun h2 => ?_⟩
   rcases hF' g h2 with h4 | h4
   ·exact h1.2 h4
   ·exact hne _ _ e1 h3 h4
 ·rcases hF' b hb with h3 | h3
  ·exact Nat.lt_of_lt_of_le (hr.heap.flt b h3) hz
  ·exact Nat.lt_of_lt_of_le (hr.heap.lt _ _ h3).1 hz
 ·refine ⟨ho.trans hr.keep.os, ht.trans hr.keep.tape, hp.trans hr.keep.output, Nat.le_trans hr.keep.size hz, fun g hg hm => ?_⟩
  refine (hblk g (Nat.lt_of_lt_of_le hg hr.keep.size) (fun h => ?_)).trans (hr.keep.block g hg hm)
  rcases hr.own _ _ h with h1 | h1
  ·exact hm h1
  ·omega
 ·rcases hcase _ _ h with ⟨e1, g1, g2, g3⟩ | ⟨e1, h3⟩
  ·rcases g3 with h3 | h3
   ·exact hr.own _ _ h3
   ·exact .inr (Nat.le_trans hr.keep.size h3)
  ·exact hr.own _ _ h3
 ·rcases hF' b hb with h3 | h3
  ·exact hr.fnew b h3
  ·rcases hr.own _ _ h3 with h4 | h4
   ·exact .inr (.inl h4)
   ·exact .inr (.inr h4)
 ·by_cases e1 : i = id
  ·subst e1
   rw [Z0]
   rcases hst hi with h | h
   ·rw [h]; exact hr.stab i hi
   ·exact .inr h
  ·rw [Z9 _ _ e1]
   exact hr.stab i hi
theorem Z3m {id : Nat} {k : Option Blk} (hw : ∀ x y, RepF F w x y → RepF F' w' x y) : ∀ i sz off len y, RepV σ F w (.own i sz off len) y → RepV (upd σ id k) F' w' (Z5 id (.own i sz off len)) y := by
 intro i sz off len y h
 simp only [Z5]
 by_cases e : i = id
 ·rw [if_pos e]; exact .f _ _ (.any _)
 ·rw [if_neg e]
  have hs := Z9 σ k e
  cases h with
  | f _ _ h => cases h
  | own0 _ _ h => exact .own0 _ _ (hs.trans h)
  | own _ _ _ _ g b c n h hn hc => exact .own _ _ _ _ g b c n (hs.trans h) hn hc
  | ownz _ _ _ g b c n a h hn hc => exact .ownz _ _ _ g b c n a (hs.trans h) hn hc
theorem Z3l {id : Nat} {k : Option Blk} (hw : ∀ x y, RepF F w x y → RepF F' w' x y) : ∀ i q sz j y, RepV σ F w (.ptr i q sz j) y → RepV (upd σ id k) F' w' (Z5 id (.ptr i q sz j)) y := by
 intro i q sz j y h
 simp only [Z5]
 by_cases e : i = id
 ·rw [if_pos e]; exact .f _ _ (.any _)
 ·rw [if_neg e]
  have hs := Z9 σ k e
  cases h with
  | f _ _ h => cases h
  | ptr _ _ _ _ g b c n h => exact .ptr _ _ _ _ g b c n (hs.trans h)
theorem Z1y {id : Nat} {k : Option Blk} : ∀ i q y, RepV σ F w (.nm i q) y → RepV (upd σ id k) F' w' (Z5 id (.nm i q)) y := by
 intro i q y h
 simp only [Z5]
 by_cases e : i = id
 ·rw [if_pos e]; exact .f _ _ (.any _)
 ·rw [if_neg e]
  have hs := Z9 σ k e
  cases h with
  | f _ _ h => cases h
  | nm _ _ gs V h h1 => exact .nm _ _ gs V (hs.trans h) h1
theorem Z30 {id e sz : Nat} {es : List (List AV)} (h : RepO σ F w id (.row e sz es)) {g b c n : Nat} (hs : σ id = some (.at_ g b c n)) : n = es.length ∧ es.length ≤ c ∧ (∀ cs ∈ es, cs.length = sz) ∧ ∃ V : Nat → Nat → Value,
  ∀ i cs j x, es[i]? = some cs → cs[j]? = some x → w.cell? ⟨g, (b + i) * sz + j, none⟩ = some (V i j) ∧ (V i j).oneCell' = true ∧ RepF F w x (V i j) := by
 rcases h with ⟨h, _⟩ | ⟨g', b', c', cur, h1, h2, h3, h4, h5, h6, h7⟩
 ·rw [hs] at h; cases h
 ·rw [hs] at h1
  injection h1 with h1
  injection h1 with e1 e2 e3 e4
  subst e1 e2 e3
  refine ⟨e4, h2, h6, fun i j => (cur[(b + i) * sz + j]?).getD undef, fun i cs j x hi hj => ?_⟩
  obtain ⟨u, h8, h9, h10⟩ := h7 i cs j x hi hj
  simp only [h8, Option.getD_some]
  exact ⟨by simp [World.cell?, h4, h8], h9, h10⟩
def St.freeze (s : St) (id : Nat) : St :=
 match s.heap[id]? with
 | some (.row _ sz es) => ⟨Zo (Zbz id sz es) s.env, (s.heap.map (AObj.sub (Zbz id sz es))).set id .dead⟩
 | _ => s
theorem Rep.freeze (hr : Rep X s a w) (id : Nat) : Rep X (s.freeze id) a w := by
 obtain ⟨σ, F, hr⟩ := hr
 unfold St.freeze
 split
 ·rename_i e rs es hq
  have hid : id < s.heap.length := (List.getElem?_eq_some_iff.1 hq).1
  have hob := hr.heap.obj id _ hq
  let F' : Nat → Prop := fun b => F b ∨ hasB σ id b
  have hRF : ∀ x y, RepF F w x y → RepF F' w x y := fun x y h => h.mono (fun _ h => .inl h) (fun _ _ => rfl)
  refine ⟨upd σ id none, F', hr.change hid rfl rfl rfl (Nat.le_refl _) (fun _ _ _ => rfl) (fun _ h => .inl h) (fun _ h => h) (fun q g h => by cases h) ?_ ?_ (fun i q y h => Z1y (k := none) i q y h) (fun _ => .inr rfl) (Z0 _ _ _)⟩
  ·intro i sz off len y h
   simp only [Zbz]
   by_cases hi : i = id
   ·subst hi
    rw [if_pos rfl]
    by_cases hsz : sz = rs
    ·subst hsz
     rw [if_pos rfl]
     rcases RepV.ownv h with ⟨h1, rfl, rfl, rfl⟩ | ⟨g, b, c, n, h1, hn, hc, hy⟩
     ·simpa using RepV.f _ _ (.nil0 sz 0 none)
     ·obtain ⟨rfl, h2, h3, V, hV⟩ := Z30 hob h1
      rcases Nat.eq_zero_or_pos len with h0 | h0
      ·subst h0
       rw [List.take_zero]
       rcases hy with rfl | ⟨_, _, _, A, rfl⟩
       ·exact .f _ _ (.nil0 _ _ _)
       ·exact .f _ _ (.nil0 _ _ _)
      ·rcases hy with rfl | ⟨h4, _⟩
       ·have hl : ((es.drop off).take len).length = len := by simp; omega
        have hget : ∀ q cs, ((es.drop off).take len)[q]? = some cs → es[off + q]? = some cs := fun q cs hq => by
         rw [List.getElem?_take] at hq
         split at hq
         ·rwa [List.getElem?_drop] at hq
         ·cases hq
        refine .f _ _ (.ro _ _ _ _ _ (fun q j => V (off + q) j) hl (by omega) (.inr (.at h1)) (fun cs hcs => h3 cs (List.mem_of_mem_drop (List.mem_of_mem_take hcs))) (fun q cs j x hq hj => ?_) (fun q cs j x hq hj => ?_))
        ·obtain ⟨h5, h6, _⟩ := hV _ cs j x (hget q cs hq) hj
         refine ⟨?_, h6⟩
         rw [Zl, ← Nat.add_assoc, ← Nat.add_mul, Nat.add_assoc]
         exact h5
        ·exact hRF _ _ (hV _ cs j x (hget q cs hq) hj).2.2
       ·omega
    ·rw [if_neg hsz]; exact .f _ _ (.any _)
   ·rw [if_neg hi]
    have hs := Z9 σ none hi
    cases h with
    | f _ _ h => cases h
    | own0 _ _ h => exact .own0 _ _ (hs.trans h)
    | own _ _ _ _ g b c n h hn hc => exact .own _ _ _ _ g b c n (hs.trans h) hn hc
    | ownz _ _ _ g b c n a h hn hc => exact .ownz _ _ _ g b c n a (hs.trans h) hn hc
  ·intro i q sz j y h
   simp only [Zbz]
   by_cases hi : i = id
   ·subst hi
    rw [if_pos rfl]
    by_cases hsz : sz = rs
    ·subst hsz
     rw [if_pos rfl]
     obtain ⟨g, b, c, n, h1, rfl⟩ := RepV.ptrv h
     obtain ⟨rfl, h2, h3, V, hV⟩ := Z30 hob h1
     have hget : ∀ k x, ((Z2 es q).drop j)[k]? = some x → ∃ cs, es[q]? = some cs ∧ cs[j + k]? = some x := fun k x hk => by
      rw [List.getElem?_drop] at hk
      unfold Z2 at hk
      cases he : es[q]? with
      | none => rw [he] at hk; simp at hk
      | some cs => rw [he] at hk; exact ⟨cs, rfl, hk⟩
     refine .f _ _ (.rp _ _ (fun k => V q (j + k)) (.inr (.at h1)) (fun k x hk => ?_) (fun k x hk => ?_))
     ·obtain ⟨cs, h4, h5⟩ := hget k x hk
      obtain ⟨h6, h7, _⟩ := hV q cs _ x h4 h5
      refine ⟨?_, h7⟩
      rw [Zl, Nat.add_assoc]
      exact h6
     ·obtain ⟨cs, h4, h5⟩ := hget k x hk
      exact hRF _ _ (hV q cs _ x h4 h5).2.2
    ·rw [if_neg hsz]; exact .f _ _ (.any _)
   ·rw [if_neg hi]
    have hs := Z9 σ none hi
    cases h with
    | f _ _ h => cases h
    | ptr _ _ _ _ g b c n h => exact .ptr _ _ _ _ g b c n (hs.trans h)
 ·exact ⟨σ, F, hr⟩
end
end Go.Proofs.YtnehieeplbgaiacDoor.Eng
set_option linter.unusedVariables false
set_option linter.unusedSimpArgs false
namespace Go.Proofs.YtnehieeplbgaiacDoor.Eng
open Go Go.RowKit
section
variable {P : Program} {T : Tab} {X : Ctx} {σ σ' : Nat → Option Blk} {F F' : Nat → Prop} {s s' : St} {a : Act} {w w' : World} {o : Oper} {c : Prop} {x : AV} {v : Value} {K : St → Prop}
structure Src (P : Program) (w : World) (size m : Nat) (x : Value) (new : List Value) : Prop where
 len : (Builtin.lenOf x).run P w = .ok m w
 cells : (Builtin.firstCells size m x).run P w = .ok new.toArray w
 cells' : (Builtin.firstCells size m x).run P w.drew = .ok new.toArray w.drew
 size : new.length = m * size
 one : ∀ u ∈ new, u.oneCell' = true
theorem Z5c {ad : Addr} {size m c : Nat} {new : List Value} (hl : new.length = m * size) (hc : ∀ j u, new[j]? = some u → w.cell? (ad.add j) = some u) (h1 : ∀ u ∈ new, u.oneCell' = true) : Src P w size m (.slice (some ad) m c) new :=
 ⟨by simp [Builtin.lenOf], by rw [Builtin.firstCells, ← hl]; exact run_loadCells_list w ad new hc, by rw [Builtin.firstCells, ← hl]; exact run_loadCells_list w.drew ad new hc, hl, h1⟩
theorem Z9b {A : Option Addr} {size c : Nat} : Src P w size 0 (.slice A 0 c) [] := by
 refine ⟨by simp [Builtin.lenOf], ?_, ?_, by simp, by simp⟩ <;> cases A <;> simp [Builtin.firstCells, loadCells, loadCellsFrom]
def Z3f (l : List UInt8) : List Value := l.map fun b => .int .u8 (b.toNat : Int)
theorem Zew (b : ByteArray) : Src P w 1 b.size (.string b) (Z3f b.data.toList) := by
 have hx : (b.extract 0 b.size).data.map (fun c : UInt8 => Value.int .u8 (c.toNat : Int)) = (Z3f b.data.toList).toArray := by
  have : b.extract 0 b.size = b := by simp
  rw [this]
  apply Array.ext'
  simp [Z3f]
 refine ⟨by simp [Builtin.lenOf], by simp only [Builtin.firstCells, hx]; rfl, by simp only [Builtin.firstCells, hx]; rfl, ?_, fun u hu => ?_⟩
 ·simp [Z3f]
 ·simp only [Z3f, List.mem_map] at hu
  obtain ⟨q, _, rfl⟩ := hu
  rfl
theorem Z26 {t t' e ty : Nat} (hu : P.underlying t = some (.slice e)) (hd : (∃ e', P.underlying t' = some (.slice e')) ∨ P.underlying t' = some .string) {i : TI} (hz : TIOk P e i) {A : Option Addr} {n cp m : Nat} {x : Value} {new : List Value}
  (hs : Src P w i.size m x new) (hle : n + m ≤ cp) (hst : ∀ ad, A = some ad → (storeCells (ad.add (n * i.size)) new).run P w = .ok () w') (hA : A = none → w' = w) :
  (Builtin.append_ #[t, t'] ty #[.slice A n cp, x]).run P w = .ok (.slice A (n + m) cp) w' := by
 rcases hd with ⟨e', hd⟩ | hd <;> cases A with
 | none => have := hA rfl; subst this; simp [Builtin.append_, run_underlying hu, run_underlying hd, hz.size_run, hs.len, hle, hs.cells]
 | some ad => simp [Builtin.append_, run_underlying hu, run_underlying hd, hz.size_run, hs.len, hle, hs.cells, hst ad rfl]
theorem Z4l {t t' e ty : Nat} (hu : P.underlying t = some (.slice e)) (hd : (∃ e', P.underlying t' = some (.slice e')) ∨ P.underlying t' = some .string) {i : TI} (hz : TIOk P e i) (hb : 0 < i.bytes) {A : Option Addr} {n cp m : Nat} {x : Value} {old new : List Value}
  (hs : Src P w i.size m x new) (hlt : cp < n + m) (hfit : (n + m) * i.bytes ≤ 140737488355328) (hold : (Builtin.firstCells i.size n (.slice A n cp)).run P w.drew = .ok old.toArray w.drew) :
  (Builtin.append_ #[t, t'] ty #[.slice A n cp, x]).run P w = .ok (.slice (some ⟨w.heap.size, 0, none⟩) (n + m) (grownCap w (n + m) cp e))
   (w.drew.alloc (.cells (old.toArray ++ new.toArray ++ Builtin.zeroCells i.zero.cells (grownCap w (n + m) cp e - (n + m))) e)) := by
 obtain ⟨q, hq, h1, h2, h3⟩ := hz.bytes_run (w := w)
 obtain ⟨q', hq', h1', h2', h3'⟩ := hz.bytes_run (w := w.drew)
 have hn : ¬ (n + m ≤ cp) := by omega
 have h48 : ¬ (281474976710656 < Builtin.nextslicecap (n + m) cp * i.bytes) := by
  have := growslice_fits (need := n + m) (old := cp) (bytes := i.bytes) hlt hfit
  omega
 have hb' : ¬ i.bytes = 0 := by omega
 have hmark : ∀ b : Nat, (askRoom b).run P w.drew = .ok () w.drew := fun b => by unfold askRoom; split <;> simp [mark, Sem.run]
 rcases hd with ⟨e', hd⟩ | hd <;> simp [Builtin.append_, run_underlying hu, run_underlying hd, hz.size_run, hs.len, hn, hq, h1, hb', h48, Question.forced, hmark, hold, hs.cells', hz.zero_run, newRow, newObj, Sem.run, grownCap, hq', h1'] <;> (congr 2; apply Array.ext'; simp [List.append_assoc])
def Z21 (s : St) (sz : Nat) : AV → Option (Prop × List (List AV))
 | .ro sz' es => some (sz' = sz, es)
 | .own id sz' off len => match s.heap[id]? with
  | some (.row _ rs es) => some (sz' = sz ∧ rs = sz, (es.drop off).take len)
  | _ => none
 | .v (.string b) => some (sz = 1, Zc7 b.data.toList)
 | .v (.slice none 0 0) => some (True, [])
 | _ => none
def Z2g (V : Nat → Nat → Value) (m sz : Nat) : List Value := (List.range (m * sz)).map fun q => V (q / sz) (q % sz)
theorem Zy (V : Nat → Nat → Value) (m sz : Nat) : (Z2g V m sz).length = m * sz := by simp [Z2g]
theorem Zz (V : Nat → Nat → Value) {m sz i j : Nat} (hi : i < m) (hj : j < sz) : (Z2g V m sz)[i * sz + j]? = some (V i j) := by
 have hq : i * sz + j < m * sz := by
  have : (i + 1) * sz ≤ m * sz := Nat.mul_le_mul_right _ hi
  rw [Nat.succ_mul] at this
  omega
 have e1 : (i * sz + j) / sz = i := by rw [Nat.mul_comm, Nat.mul_add_div (by omega), Nat.div_eq_of_lt hj, Nat.add_zero]
 have e2 : (i * sz + j) % sz = j := by rw [Nat.mul_comm, Nat.mul_add_mod, Nat.mod_eq_of_lt hj]
 simp only [Z2g, List.getElem?_map, List.getElem?_range hq, Option.map_some, e1, e2]
theorem Zq {m sz q : Nat} (h : q < m * sz) : ∃ i j, i < m ∧ j < sz ∧ q = i * sz + j := by
 have hsz : 0 < sz := by
  rcases Nat.eq_zero_or_pos sz with h0 | h0
  ·subst h0; simp at h
  ·exact h0
 exact ⟨q / sz, q % sz, (Nat.div_lt_iff_lt_mul hsz).2 h, Nat.mod_lt _ hsz, by rw [Nat.mul_comm]; exact (Nat.div_add_mod q sz).symm⟩
def SrcRep (F : Nat → Prop) (w : World) (sz : Nat) (news : List (List AV)) (new : List Value) : Prop :=
 (∀ cs ∈ news, cs.length = sz) ∧ ∀ i cs j x, news[i]? = some cs → cs[j]? = some x → ∃ u, new[i * sz + j]? = some u ∧ u.oneCell' = true ∧ RepF F w x u
theorem src_of (hr : RepAt X σ F s a w) {y : Operand} {sz : Nat} {news : List (List AV)} (hy : Z21 s sz (s.ev y) = some (c, news)) (hc : c) :
  ∃ new, Src P w sz news.length (a.eval y) new ∧ SrcRep F w sz news new := by
 unfold Z21 at hy
 split at hy
 ·rename_i sz' es he
  cases hy
  subst hc
  obtain ⟨A, cp, hv, hle, hx⟩ := RepV.rov (he ▸ hr.ev y)
  rcases Nat.eq_zero_or_pos news.length with h0 | h0
  ·obtain rfl : news = [] := List.eq_nil_of_length_eq_zero h0
   refine ⟨[], ?_, fun cs hcs => by simp at hcs, fun i cs j x hi => by simp at hi⟩
   rw [hv]; exact Z9b
  ·obtain ⟨ad, V, rfl, hF, hl, hcell, hrep⟩ := hx (fun e => by subst e; simp at h0)
   have hrow : ∀ i j, i < news.length → j < sz' → ∃ cs x, news[i]? = some cs ∧ cs[j]? = some x := fun i j hi hj => by
    refine ⟨news[i], news[i][j]'(by rw [hl _ (List.getElem_mem hi)]; exact hj), List.getElem?_eq_getElem hi, List.getElem?_eq_getElem _⟩
   refine ⟨Z2g V news.length sz', ?_, hl, fun i cs j x hi hj => ?_⟩
   ·rw [hv]
    refine Z5c (Zy _ _ _) (fun q u hq => ?_) (fun u hu => ?_)
    ·have hlt : q < news.length * sz' := by have := (List.getElem?_eq_some_iff.1 hq).1; rwa [Zy] at this
     obtain ⟨i, j, hi, hj, rfl⟩ := Zq hlt
     rw [Zz V hi hj] at hq
     injection hq with hq
     obtain ⟨cs, x, h1, h2⟩ := hrow i j hi hj
     rw [← hq]; exact (hcell i cs j x h1 h2).1
    ·obtain ⟨q, hq⟩ := List.getElem?_of_mem hu
     have hlt : q < news.length * sz' := by have := (List.getElem?_eq_some_iff.1 hq).1; rwa [Zy] at this
     obtain ⟨i, j, hi, hj, rfl⟩ := Zq hlt
     rw [Zz V hi hj] at hq
     injection hq with hq
     obtain ⟨cs, x, h1, h2⟩ := hrow i j hi hj
     rw [← hq]; exact (hcell i cs j x h1 h2).2
   ·have hi' := (List.getElem?_eq_some_iff.1 hi).1
    have hj' : j < sz' := by have := (List.getElem?_eq_some_iff.1 hj).1; rw [hl cs (List.mem_of_getElem? hi)] at this; exact this
    exact ⟨_, Zz V hi' hj', (hcell i cs j x hi hj).2, hrep i cs j x hi hj⟩
 ·rename_i id sz' off len he
  split at hy
  ·rename_i e rs es hq
   cases hy
   obtain ⟨e1, e2⟩ := hc
   subst e1
   subst e2
   have hob := hr.heap.obj id _ hq
   rcases RepV.ownv (he ▸ hr.ev y) with ⟨h1, rfl, rfl, hv⟩ | ⟨g, b, cp, n, h1, hn, hcp, hv⟩
   ·refine ⟨[], ?_, by simp, by simp⟩
    rw [hv]; simpa using Z9b
   ·obtain ⟨rfl, h2, h3, V, hV⟩ := Z30 hob h1
    rcases Nat.eq_zero_or_pos len with h0 | h0
    ·subst h0
     refine ⟨[], ?_, by simp, by simp⟩
     rcases hv with hv | ⟨_, _, _, A, hv⟩ <;> (rw [hv]; simpa using Z9b)
    ·have hv' : a.eval y = .slice (some ⟨g, (b + off) * rs, none⟩) len (cp - off) := by
      rcases hv with hv | ⟨h4, _⟩
      ·exact hv
      ·omega
     have hl : ((es.drop off).take len).length = len := by simp; omega
     have hget : ∀ q cs, ((es.drop off).take len)[q]? = some cs → es[off + q]? = some cs := fun q cs hq => by
      rw [List.getElem?_take] at hq
      split at hq
      ·rwa [List.getElem?_drop] at hq
      ·cases hq
     have hlen : ∀ cs ∈ (es.drop off).take len, cs.length = rs := fun cs hcs => h3 cs (List.mem_of_mem_drop (List.mem_of_mem_take hcs))
     have hrow : ∀ i j, i < len → j < rs → ∃ cs x, es[off + i]? = some cs ∧ cs[j]? = some x := fun i j hi hj => by
      have hlt : off + i < es.length := by omega
      refine ⟨es[off + i], es[off + i][j]'(by rw [h3 _ (List.getElem_mem hlt)]; exact hj), List.getElem?_eq_getElem hlt, List.getElem?_eq_getElem _⟩
     refine ⟨Z2g (fun i j => V (off + i) j) len rs, ?_, hlen, fun i cs j x hi hj => ?_⟩
     ·rw [hv', hl]
      refine Z5c (Zy _ _ _) (fun q u hq => ?_) (fun u hu => ?_)
      ·have hlt : q < len * rs := by have := (List.getElem?_eq_some_iff.1 hq).1; rwa [Zy] at this
       obtain ⟨i, j, hi, hj, rfl⟩ := Zq hlt
       rw [Zz _ hi hj] at hq
       injection hq with hq
       obtain ⟨cs, x, h5, h6⟩ := hrow i j hi hj
       rw [← hq, Zl, ← Nat.add_assoc, ← Nat.add_mul, Nat.add_assoc]
       exact (hV _ cs j x h5 h6).1
      ·obtain ⟨q, hq⟩ := List.getElem?_of_mem hu
       have hlt : q < len * rs := by have := (List.getElem?_eq_some_iff.1 hq).1; rwa [Zy] at this
       obtain ⟨i, j, hi, hj, rfl⟩ := Zq hlt
       rw [Zz _ hi hj] at hq
       injection hq with hq
       obtain ⟨cs, x, h5, h6⟩ := hrow i j hi hj
       rw [← hq]
       exact (hV _ cs j x h5 h6).2.1
     ·have hi' : i < len := by have := (List.getElem?_eq_some_iff.1 hi).1; omega
      have hj' : j < rs := by have := (List.getElem?_eq_some_iff.1 hj).1; rw [hlen cs (List.mem_of_getElem? hi)] at this; exact this
      exact ⟨_, Zz _ hi' hj', (hV _ cs j x (hget i cs hi) hj).2⟩
  ·cases hy
 ·rename_i b he
  cases hy
  subst hc
  have hv : a.eval y = .string b := RepV.val (he ▸ hr.ev y)
  refine ⟨Z3f b.data.toList, ?_, fun cs hcs => ?_, fun i cs j x hi hj => ?_⟩
  ·rw [hv]
   have : (Zc7 b.data.toList).length = b.size := by simp [Zc7]
   rw [this]; exact Zew b
  ·simp only [Zc7, List.mem_map] at hcs
   obtain ⟨q, _, rfl⟩ := hcs
   rfl
  ·simp only [Zc7, List.getElem?_map, Option.map_eq_some_iff] at hi
   obtain ⟨q, hq, rfl⟩ := hi
   have hj0 : j = 0 := by have := (List.getElem?_eq_some_iff.1 hj).1; simp at this; omega
   subst hj0
   simp at hj
   subst hj
   exact ⟨.int .u8 (q.toNat : Int), by simp only [Z3f, Nat.mul_one, Nat.add_zero, List.getElem?_map, hq]; rfl, rfl, .v _⟩
 ·rename_i he
  cases hy
  have hv : a.eval y = .slice none 0 0 := RepV.val (he ▸ hr.ev y)
  exact ⟨[], by rw [hv]; exact Z9b, by simp, by simp⟩
 ·cases hy
end
end Go.Proofs.YtnehieeplbgaiacDoor.Eng
set_option linter.unusedVariables false
set_option linter.unusedSimpArgs false
namespace Go.Proofs.YtnehieeplbgaiacDoor.Eng
open Go Go.RowKit
section
variable {P : Program} {T : Tab} {X : Ctx} {σ σ' : Nat → Option Blk} {F F' : Nat → Prop} {s s' : St} {a : Act} {w w' : World} {o : Oper} {c : Prop} {x : AV} {v : Value} {K : St → Prop}
theorem Z4p {A : Option Addr} {n cp sz : Nat} {old : List Value} (hl : old.length = n * sz) (hA : ∀ ad, A = some ad → ∀ j u, old[j]? = some u → w.cell? (ad.add j) = some u) (h0 : A = none → old = []) : (Builtin.firstCells sz n (.slice A n cp)).run P w = .ok old.toArray w := by
 cases A with
 | none => rw [h0 rfl]; simp [Builtin.firstCells]
 | some ad => simp only [Builtin.firstCells]; rw [← hl]; exact run_loadCells_list w ad old (hA ad rfl)
def St.appended (s : St) (id : Nat) (row : AObj) : St := ⟨Zo (Z5 id) s.env, (s.heap.map (AObj.sub (Z5 id))).set id row⟩
theorem Zch {t t' e : Nat} {y z : Operand} (ho : o.op = .call { callee := .builtin .append, args := #[y, z], argTypes := #[t, t'] }) (hT : Zh P T) {m p : Nat} {zv : Value} (ht : T t = some ⟨.slice e, m, p, zv⟩) {ti : TI} (hti : T e = some ti)
  (ht' : (∃ e' m' p' z', T t' = some ⟨.slice e', m', p', z'⟩) ∨ ∃ m' p' z', T t' = some ⟨.str, m', p', z'⟩) {id off len : Nat} {es : List (List AV)} (hq : s.heap[id]? = some (.row e ti.size es)) (hfull : off + len = es.length)
  {news : List (List AV)} (hz : Z21 s ti.size (s.ev z) = some (c, news)) (hc : c) (hsz : 0 < ti.size) (hby : 0 < ti.bytes) (hfit : (len + news.length) * ti.bytes ≤ 140737488355328) (hm : X.m ≤ id)
  (hr : RepAt X σ F s a w) (hyr : RepV σ F w (.own id ti.size off len) (a.eval y)) :
  ∃ v w' σ' F' x, (execOp a.eval o).run P w = .ok (.value v) w' ∧ RepAt X σ' F' (s.appended id (.row e ti.size (es.drop off ++ news))) a w' ∧ RepV σ' F' w' x v ∧ x = .own id ti.size 0 (len + news.length) := by
 obtain ⟨new, hs, hnl, hnr⟩ := src_of (P := P) hr hz hc
 have hu : P.underlying t = some (.slice e) := (hT _ _ ht).kind
 have hz' := hT _ _ hti
 have hu' : (∃ e', P.underlying t' = some (.slice e')) ∨ P.underlying t' = some .string := by
  rcases ht' with ⟨e', _, _, _, h⟩ | ⟨_, _, _, h⟩
  ·exact .inl ⟨e', (hT _ _ h).kind⟩
  ·exact .inr (hT _ _ h).kind
 have hid : id < s.heap.length := (List.getElem?_eq_some_iff.1 hq).1
 have hob := hr.heap.obj id _ hq
 have hrun : ∀ V w', (Builtin.append_ #[t, t'] o.type #[a.eval y, a.eval z]).run P w = .ok V w' → (execOp a.eval o).run P w = .ok (.value V) w' := fun V w' h => by
  simp [execOp, ho, resolve, invoke, builtin, h]
 have hmax : len + news.length ≤ 140737488355328 := Nat.le_trans (Nat.le_mul_of_pos_right _ hby) hfit
 have hcomb : ∀ cs ∈ es.drop off ++ news, (∀ cs ∈ es, cs.length = ti.size) → cs.length = ti.size := fun cs hcs h => by
  rcases List.mem_append.1 hcs with h1 | h1
  ·exact h cs (List.mem_of_mem_drop h1)
  ·exact hnl cs h1
 have hlenD : (es.drop off).length = len := by simp; omega
 have out : ∀ (A : Option Addr) (cp : Nat) (old : List Value), a.eval y = .slice A len cp → cp < len + news.length → old.length = len * ti.size → (∀ cs ∈ es, cs.length = ti.size) →
   (∀ ad, A = some ad → ∀ j u, old[j]? = some u → w.cell? (ad.add j) = some u) → (A = none → old = []) →
   (∀ i cs j x, (es.drop off)[i]? = some cs → cs[j]? = some x → ∃ u, old[i * ti.size + j]? = some u ∧ u.oneCell' = true ∧ RepF F w x u) →
   ∃ v w' σ' F' x, (execOp a.eval o).run P w = .ok (.value v) w' ∧ RepAt X σ' F' (s.appended id (.row e ti.size (es.drop off ++ news))) a w' ∧ RepV σ' F' w' x v ∧ x = .own id ti.size 0 (len + news.length) := by
  intro A cp old hA hlt hol hes hcell hnone hold
  have hr1 := Z4l (P := P) (ty := o.type) hu hu' hz' hby hs hlt hfit (Z4p (w := w.drew) hol (fun ad h => by simpa using hcell ad h) hnone)
  rw [← hA] at hr1
  have hge := grownCap_ge w (len + news.length) cp e
  have hcm := grownCap_le_maxLen w (len + news.length) cp e (by simp only [maxLen]; omega)
  let cur : Array Value := old.toArray ++ new.toArray ++ Builtin.zeroCells ti.zero.cells (grownCap w (len + news.length) cp e - (len + news.length))
  let w1 := w.drew.alloc (.cells cur e)
  have hE : Ext w w1 := ⟨rfl, rfl, rfl, by simp [w1], fun b hb _ => by
   have : (w.drew.alloc (.cells cur e)).heap[b]? = w.drew.heap[b]? := Below.heap_alloc w.drew _ b hb
   exact this⟩
  have hF : ∀ b, F b → w1.heap[b]? = w.heap[b]? := fun b hb => hE.block b (hr.heap.flt b hb) (fun h => h)
  have hRF : ∀ x y, RepF F w x y → RepF F w1 x y := fun x y h => h.mono (fun _ h => h) hF
  have hcs : cur.size = (0 + grownCap w (len + news.length) cp e) * ti.size := by
   simp only [cur, Array.size_append, List.size_toArray, size_zeroCells, hz'.cells, hol, hs.size, ← Nat.add_mul]
   congr 1; omega
  have hget : ∀ q u, (old ++ new)[q]? = some u → cur[q]? = some u := fun q u hq => by
   have : cur.toList = (old ++ new) ++ (Builtin.zeroCells ti.zero.cells (grownCap w (len + news.length) cp e - (len + news.length))).toList := by simp [cur]
   rw [← Array.getElem?_toList, this, List.getElem?_append_left (List.getElem?_eq_some_iff.1 hq).1]
   exact hq
  refine ⟨_, w1, upd σ id (some (.at_ w.heap.size 0 (grownCap w (len + news.length) cp e) (len + news.length))), F, _, hrun _ _ hr1, hr.change hid hE.os hE.tape hE.output hE.size (fun g hg _ => hE.block g hg (fun h => h)) (fun _ h => h) (fun _ h => .inl h) ?_ (Z3m hRF) (Z3l hRF) Z1y (fun h => absurd h (by omega)) ?_, ?_, rfl⟩
  ·intro q g hq hg
   cases hq
   have e1 : g = w.heap.size := hg
   subst e1
   exact ⟨by simp [w1], fun hF => by have := hr.heap.flt _ hF; omega, .inr (Nat.le_refl _)⟩
  ·refine .inr ⟨w.heap.size, 0, _, cur, by rw [Z0, List.length_append, hlenD], by rw [List.length_append, hlenD]; exact hge, by simpa using hcm, heap_alloc_new w.drew _, hcs, fun cs hcs => hcomb cs hcs hes, fun i cs j x hi hj => ?_⟩
   rcases Nat.lt_or_ge i len with hlt' | hge'
   ·rw [List.getElem?_append_left (by omega)] at hi
    obtain ⟨u, h1, h2, h3⟩ := hold i cs j x hi hj
    refine ⟨u, hget _ _ ?_, h2, hRF _ _ h3⟩
    rw [Nat.zero_add, List.getElem?_append_left (List.getElem?_eq_some_iff.1 h1).1]
    exact h1
   ·rw [List.getElem?_append_right (by omega), hlenD] at hi
    obtain ⟨u, h1, h2, h3⟩ := hnr (i - len) cs j x hi hj
    refine ⟨u, hget _ _ ?_, h2, hRF _ _ h3⟩
    have : (0 + i) * ti.size + j = old.length + ((i - len) * ti.size + j) := by
     rw [hol, Nat.zero_add, ← Nat.add_assoc, ← Nat.add_mul]
     congr 2; omega
    rw [this, List.getElem?_append_right (by omega), Nat.add_sub_cancel_left]
    exact h1
  ·have := RepV.own (σ := upd σ id (some (.at_ w.heap.size 0 (grownCap w (len + news.length) cp e) (len + news.length)))) (F := F) (w := w1) id ti.size 0 (len + news.length) w.heap.size 0 (grownCap w (len + news.length) cp e) (len + news.length) (Z0 _ _ _) (by omega) hge
   simpa using this
 rcases RepV.ownv hyr with ⟨h1, h2, h3, hv⟩ | ⟨g, b, cp, n, h1, hn, hcp, hv⟩
 ·
  subst h2 h3
  have hes : es = [] := List.eq_nil_of_length_eq_zero (by omega)
  subst hes
  rcases Nat.eq_zero_or_pos news.length with h0 | h0
  ·have hnews : news = [] := List.eq_nil_of_length_eq_zero h0
   subst hnews
   have hr1 := Z26 (P := P) (ty := o.type) (w' := w) hu hu' hz' hs (A := none) (n := 0) (cp := 0) (by simp) (fun ad h => by cases h) (fun _ => rfl)
   rw [← hv] at hr1
   have hRF : ∀ x y, RepF F w x y → RepF F w x y := fun _ _ h => h
   refine ⟨_, w, upd σ id (some .nil), F, _, hrun _ _ hr1, hr.change hid rfl rfl rfl (Nat.le_refl _) (fun _ _ _ => rfl) (fun _ h => h) (fun _ h => .inl h) (fun q g h hg => by cases h; exact hg.elim) (Z3m hRF) (Z3l hRF) Z1y (fun h => absurd h (by omega)) (show RepO (upd σ id (some .nil)) F w id (.row e ti.size (([] : List (List AV)).drop 0 ++ [])) from .inl ⟨Z0 _ _ _, rfl⟩), ?_, rfl⟩
   exact .own0 id ti.size (Z0 _ _ _)
  ·exact out none 0 [] (by rw [hv]) (by omega) (by simp) (by simp) (fun ad h => by cases h) (fun _ => rfl) (fun i cs j x hi => by simp at hi)
 ·obtain ⟨rfl, hle, hes, V, hV⟩ := Z30 hob h1
  rcases hob with ⟨h2, _⟩ | ⟨g', b', c', cur, h2, hle', hbc, hg, hcsz, _, hcell⟩
  ·rw [h1] at h2; cases h2
  rw [h1] at h2
  injection h2 with h2
  injection h2 with e1 e2 e3 e4
  subst e1 e2 e3
  have hA : ∃ A cap, a.eval y = .slice A len cap ∧ cap = cp - off ∧ ((A = some ⟨g, (b + off) * ti.size, none⟩) ∨ (len = 0 ∧ off = cp)) := by
   rcases hv with hv | ⟨h3, h4, h5, A, hv⟩
   ·exact ⟨_, _, hv, rfl, .inl rfl⟩
   ·exact ⟨A, 0, by rw [hv, h3], by omega, .inr ⟨h3, by omega⟩⟩
  obtain ⟨A, cap, hv', rfl, hA⟩ := hA
  by_cases hroom : len + news.length ≤ cp - off
  ·
   let cur' : Array Value := (cur.toList.take ((b + off + len) * ti.size) ++ new ++ cur.toList.drop ((b + off + len) * ti.size + new.length)).toArray
   have hfitc : (b + off + len) * ti.size + new.length ≤ cur.size := by
    rw [hs.size, ← Nat.add_mul, hcsz]
    exact Nat.mul_le_mul_right _ (by omega)
   have hst : ∀ ad, A = some ad → (storeCells (ad.add (len * ti.size)) new).run P w = .ok () (if A = none then w else w.setRow g cur') := by
    intro ad had
    rw [if_neg (by rw [had]; simp)]
    rcases hA with hA | ⟨h3, h4⟩
    ·rw [had] at hA
     injection hA with hA
     subst hA
     rw [Zl, ← Nat.add_mul]
     exact run_storeCells_at (P := P) g ((b + off + len) * ti.size) e new 0 cur w hg (by simpa using hfitc) hs.one
    ·have hn0 : new = [] := List.eq_nil_of_length_eq_zero (by rw [hs.size]; rw [show news.length = 0 from by omega, Nat.zero_mul])
     subst hn0
     simp only [storeCells, Sem.run_pure]
     have : cur' = cur := by simp only [cur']; rw [List.append_nil, List.length_nil, Nat.add_zero, List.take_append_drop]
     rw [this, setRow_self w g cur e (0, 0) hg]
   have hr1 := Z26 (P := P) (ty := o.type) (w' := if A = none then w else w.setRow g cur') hu hu' hz' hs (A := A) (n := len) (cp := cp - off) hroom hst (fun h => by rw [if_pos h])
   rw [← hv'] at hr1
   have hwne : (if A = none then w else w.setRow g cur') = w.setRow g cur' := by
    split
    ·rename_i hAn
     rcases hA with hA | ⟨h3, h4⟩
     ·rw [hAn] at hA; cases hA
     ·have hn0 : new = [] := List.eq_nil_of_length_eq_zero (by rw [hs.size]; rw [show news.length = 0 from by omega, Nat.zero_mul])
      have : cur' = cur := by simp only [cur', hn0]; rw [List.append_nil, List.length_nil, Nat.add_zero, List.take_append_drop]
      rw [this, setRow_self w g cur e (0, 0) hg]
    ·rfl
   rw [hwne] at hr1
   have hgF : ¬ F g := (hr.heap.lt _ _ (.at h1)).2
   have hRF : ∀ x y, RepF F w x y → RepF F (w.setRow g cur') x y := fun x y h => h.mono (fun _ h => h) (fun b hb => setRow_other w g b _ (fun e => hgF (e ▸ hb)))
   have hnewg : (w.setRow g cur').heap[g]? = some (.cells cur' e (0, 0)) := setRow_heap w g cur _ e _ hg
   have hcs' : cur'.size = (b + off + (cp - off)) * ti.size := by
    have : cur'.size = cur.size := by simp only [cur', List.size_toArray, List.length_append, List.length_take, List.length_drop, Array.length_toList]; omega
    rw [this, hcsz]; congr 1; omega
   have hget1 : ∀ q, q < (b + off + len) * ti.size → cur'[q]? = cur[q]? := fun q hq => by
    simp only [cur', List.getElem?_toArray]
    rw [List.append_assoc, List.getElem?_append_left (by simp; omega), List.getElem?_take, if_pos hq, Array.getElem?_toList]
   have hget2 : ∀ q u, new[q]? = some u → cur'[(b + off + len) * ti.size + q]? = some u := fun q u hq => by
    have hl : q < new.length := (List.getElem?_eq_some_iff.1 hq).1
    have hl2 : (cur.toList.take ((b + off + len) * ti.size)).length = (b + off + len) * ti.size := by simp; omega
    simp only [cur', List.getElem?_toArray]
    rw [List.append_assoc, List.getElem?_append_right (by omega), hl2, Nat.add_sub_cancel_left, List.getElem?_append_left hl]
    exact hq
   refine ⟨_, w.setRow g cur', upd σ id (some (.at_ g (b + off) (cp - off) (len + news.length))), F, _, hrun _ _ hr1, hr.change hid rfl rfl rfl (by simp) (fun g1 hg1 hne => setRow_other w g g1 _ (fun e => hne (.at (e ▸ h1)))) (fun _ h => h) (fun _ h => .inl h) ?_ (Z3m hRF) (Z3l hRF) Z1y (fun h => absurd h (by omega)) ?_, ?_, rfl⟩
   ·intro q1 g1 hq1 hg1
    cases hq1
    have e1 : g1 = g := hg1
    subst e1
    exact ⟨by simpa using (hr.heap.lt _ _ (.at h1)).1, hgF, .inl (.at h1)⟩
   ·refine .inr ⟨g, b + off, cp - off, cur', by rw [Z0, List.length_append, hlenD], by rw [List.length_append, hlenD]; exact hroom, by omega, hnewg, hcs', fun cs hcs => hcomb cs hcs hes, fun i cs j x hi hj => ?_⟩
    have hjs : j < ti.size := by
     have := (List.getElem?_eq_some_iff.1 hj).1
     rw [hcomb cs (List.mem_of_getElem? hi) hes] at this
     exact this
    rcases Nat.lt_or_ge i len with hlt' | hge'
    ·rw [List.getElem?_append_left (by omega), List.getElem?_drop] at hi
     obtain ⟨u, h3, h4, h5⟩ := hcell (off + i) cs j x hi hj
     refine ⟨u, ?_, h4, hRF _ _ h5⟩
     rw [hget1]
     ·rw [Nat.add_assoc]; exact h3
     ·have : (b + off + i + 1) * ti.size ≤ (b + off + len) * ti.size := Nat.mul_le_mul_right _ (by omega)
      rw [Nat.succ_mul] at this
      omega
    ·rw [List.getElem?_append_right (by omega), hlenD] at hi
     obtain ⟨u, h3, h4, h5⟩ := hnr (i - len) cs j x hi hj
     refine ⟨u, ?_, h4, hRF _ _ h5⟩
     have : (b + off + i) * ti.size + j = (b + off + len) * ti.size + ((i - len) * ti.size + j) := by
      rw [← Nat.add_assoc, ← Nat.add_mul]
      congr 2; omega
     rw [this]
     exact hget2 _ _ h3
   ·by_cases hz0 : cp - off = 0
    ·have hl0 : len = 0 := by omega
     have hn0 : news.length = 0 := by omega
     have := RepV.ownz (σ := upd σ id (some (.at_ g (b + off) (cp - off) (len + news.length)))) (F := F) (w := w.setRow g cur') id ti.size 0 g (b + off) (cp - off) (len + news.length) A (Z0 _ _ _) (by omega) (by omega)
     rw [hl0, hn0, hz0] at this ⊢
     exact this
    ·rcases hA with hA | ⟨h3, h4⟩
     ·have := RepV.own (σ := upd σ id (some (.at_ g (b + off) (cp - off) (len + news.length)))) (F := F) (w := w.setRow g cur') id ti.size 0 (len + news.length) g (b + off) (cp - off) (len + news.length) (Z0 _ _ _) (by omega) hroom
      rw [hA]
      simpa using this
     ·omega
  ·
   rcases hA with hA | ⟨h3, h4⟩
   ·subst hA
    refine out _ (cp - off) (Z2g (fun i j => V (off + i) j) len ti.size) hv' (by omega) (Zy _ _ _) hes (fun ad had q u hq => ?_) (fun h => by cases h) (fun i cs j x hi hj => ?_)
    ·injection had with had
     subst had
     have hlt : q < len * ti.size := by have := (List.getElem?_eq_some_iff.1 hq).1; rwa [Zy] at this
     obtain ⟨i, j, hi, hj, rfl⟩ := Zq hlt
     rw [Zz _ hi hj] at hq
     injection hq with hq
     have hlt2 : off + i < es.length := by omega
     have h5 := hV (off + i) es[off + i] j (es[off + i][j]'(by rw [hes _ (List.getElem_mem hlt2)]; exact hj)) (List.getElem?_eq_getElem hlt2) (List.getElem?_eq_getElem _)
     rw [← hq, Zl, ← Nat.add_assoc, ← Nat.add_mul, Nat.add_assoc]
     exact h5.1
    ·rw [List.getElem?_drop] at hi
     have hi' : i < len := by have := (List.getElem?_eq_some_iff.1 hi).1; omega
     have hj' : j < ti.size := by have := (List.getElem?_eq_some_iff.1 hj).1; rw [hes cs (List.mem_of_getElem? hi)] at this; exact this
     exact ⟨_, Zz _ hi' hj', (hV _ cs j x hi hj).2⟩
   ·have hl0 : (es.drop off) = [] := List.eq_nil_of_length_eq_zero (by omega)
    exact out A (cp - off) [] hv' (by omega) (by rw [h3]; simp) hes (fun _ _ j u h => by simp at h) (fun _ => rfl) (fun i cs j x hi => by rw [hl0] at hi; simp at hi)
theorem Zbh {t t' e : Nat} {y z : Operand} (ho : o.op = .call { callee := .builtin .append, args := #[y, z], argTypes := #[t, t'] }) (hT : Zh P T) {m p : Nat} {zv : Value} (ht : T t = some ⟨.slice e, m, p, zv⟩) {ti : TI} (hti : T e = some ti)
  (ht' : (∃ e' m' p' z', T t' = some ⟨.slice e', m', p', z'⟩) ∨ ∃ m' p' z', T t' = some ⟨.str, m', p', z'⟩) {id off len : Nat} (hy : s.ev y = .own id ti.size off len) {es : List (List AV)} (hq : s.heap[id]? = some (.row e ti.size es)) (hfull : off + len = es.length)
  {news : List (List AV)} (hz : Z21 s ti.size (s.ev z) = some (c, news)) (hc : c) (hsz : 0 < ti.size) (hby : 0 < ti.bytes) (hfit : (len + news.length) * ti.bytes ≤ 140737488355328) (hm : X.m ≤ id) (hd : dOK X.n o.dst)
  (hK : K (St.put (s.appended id (.row e ti.size (es.drop off ++ news))) o.dst (.own id ti.size 0 (len + news.length)))) : opWP P X o K s := by
 refine opWP.mem (fun σ F a w hr => ?_) hd
 obtain ⟨v, w', σ', F', x, h1, h2, h3, rfl⟩ := Zch ho hT ht hti ht' hq hfull hz hc hsz hby hfit hm hr (hy ▸ hr.ev y)
 exact ⟨v, w', σ', F', _, _, h1, h2, h3, hK⟩
theorem Z9m {t t' e : Nat} {y z : Operand} (ho : o.op = .call { callee := .builtin .append, args := #[y, z], argTypes := #[t, t'] }) (hT : Zh P T) {m p : Nat} {zv : Value} (ht : T t = some ⟨.slice e, m, p, zv⟩) {ti : TI} (hti : T e = some ti)
  (ht' : (∃ e' m' p' z', T t' = some ⟨.slice e', m', p', z'⟩) ∨ ∃ m' p' z', T t' = some ⟨.str, m', p', z'⟩) (hy : s.ev y = .v (.slice none 0 0))
  {news : List (List AV)} (hz : Z21 s ti.size (s.ev z) = some (c, news)) (hc : c) (hsz : 0 < ti.size) (hby : 0 < ti.bytes) (hfit : news.length * ti.bytes ≤ 140737488355328) (hd : dOK X.n o.dst)
  (hK : K (St.put (St.appended { s with heap := s.heap ++ [.row e ti.size []] } s.heap.length (.row e ti.size news)) o.dst (.own s.heap.length ti.size 0 news.length))) : opWP P X o K s := by
 refine opWP.mem (fun σ F a w hr => ?_) hd
 have hv : a.eval y = .slice none 0 0 := RepV.val (hy ▸ hr.ev y)
 have hz' : Z21 { s with heap := s.heap ++ [.row e ti.size []] } ti.size (St.ev { s with heap := s.heap ++ [.row e ti.size []] } z) = some (c, news) := by
  have he : St.ev { s with heap := s.heap ++ [.row e ti.size []] } z = s.ev z := by cases z <;> rfl
  rw [he, ← hz]
  unfold Z21
  split
  ·rfl
  ·rename_i id sz' off len hx
   have hid : id < s.heap.length ∨ s.heap.length ≤ id := Nat.lt_or_ge _ _
   rcases hid with hid | hid
   ·simp only [List.getElem?_append_left hid]
   ·exfalso
    have hn : s.heap[id]? = none := List.getElem?_eq_none hid
    rw [hx] at hz
    simp [Z21, hn] at hz
  ·rfl
  ·rfl
  ·rfl
 have h := Zch (s := { s with heap := s.heap ++ [.row e ti.size []] }) (id := s.heap.length) (off := 0) (len := 0) (es := []) ho hT ht hti ht' (by simp) rfl hz' hc hsz hby (by simpa using hfit) hr.hm (hr.newNil e ti.size) (by rw [hv]; exact .own0 _ _ (Z0 _ _ _))
 obtain ⟨v, w', σ', F', x, h1, h2, h3, rfl⟩ := h
 simp only [List.drop_nil, List.nil_append, Nat.zero_add] at h2 h3
 exact ⟨v, w', σ', F', _, _, h1, h2, h3, hK⟩
end
end Go.Proofs.YtnehieeplbgaiacDoor.Eng
set_option linter.unusedVariables false
set_option linter.unusedSimpArgs false
namespace Go.Proofs.YtnehieeplbgaiacDoor.Eng
open Go Go.RowKit
section
variable {P : Program} {T : Tab} {X : Ctx} {σ σ' : Nat → Option Blk} {F F' : Nat → Prop} {s s' : St} {a : Act} {w w' : World} {o : Oper} {c : Prop} {x : AV} {v : Value} {K : St → Prop}
theorem Z7q (l : List (Nat × AV)) : Zo id l = l := by
 simp only [Zo]
 conv => rhs; rw [← List.map_id l]
 apply List.map_congr_left
 rintro ⟨i, x⟩ _
 simp [AV.sub_id]
theorem Z8r (l : List AObj) : l.map (AObj.sub id) = l := by
 conv => rhs; rw [← List.map_id l]
 exact List.map_congr_left fun x _ => AObj.sub_id x
theorem RepAt.setObj (hr : RepAt X σ F s a w) {i : Nat} (hid : i < s.heap.length) {g b c n : Nat} (hs : σ i = some (.at_ g b c n)) {cur' : Array Value} {ob : AObj} (hob : RepO σ F (w.setRow g cur') i ob) : RepAt X σ F ⟨s.env, s.heap.set i ob⟩ a (w.setRow g cur') := by
 have hgF : ¬ F g := (hr.heap.lt _ _ (.at hs)).2
 have hup : upd σ i (σ i) = σ := by
  funext q
  unfold upd
  split
  ·rename_i e; rw [e]
  ·rfl
 have hRF : ∀ x y, RepF F w x y → RepF F (w.setRow g cur') x y := fun x y h => h.mono (fun _ h => h) (fun b hb => setRow_other w g b _ (fun e => hgF (e ▸ hb)))
 have h := hr.change (w' := w.setRow g cur') (F' := F) (f := id) (k := σ i) (ob := ob) hid rfl rfl rfl (by simp) (fun g1 hg1 hne => setRow_other w g g1 _ (fun e => hne (.at (e ▸ hs)))) (fun _ h => h) (fun _ h => .inl h)
  (fun q1 g1 h hg => ⟨by simpa using (hr.heap.lt _ _ ⟨q1, h, hg⟩).1, (hr.heap.lt _ _ ⟨q1, h, hg⟩).2, .inl ⟨q1, h, hg⟩⟩)
  (fun q sz off len y h => by rw [hup]; exact h.mono (fun _ h => h) (fun b hb => setRow_other w g b _ (fun e => hgF (e ▸ hb)))) (fun q k sz j y h => by rw [hup]; exact h.mono (fun _ h => h) (fun b hb => setRow_other w g b _ (fun e => hgF (e ▸ hb)))) (fun q k y h => by rw [hup]; exact h.mono (fun _ h => h) (fun b hb => setRow_other w g b _ (fun e => hgF (e ▸ hb)))) (fun _ => .inl rfl) (by rw [hup]; exact hob)
 rw [hup, Z7q, Z8r] at h
 exact h
theorem Z2l (cur : Array Value) (off : Nat) (vs : List Value) (h : off + vs.length ≤ cur.size) (q : Nat) :
  (cur.toList.take off ++ vs ++ cur.toList.drop (off + vs.length)).toArray[q]? = if off ≤ q ∧ q < off + vs.length then vs[q - off]? else cur[q]? := by
 simp only [List.getElem?_toArray]
 rw [List.append_assoc]
 have hl : (cur.toList.take off).length = off := by simp; omega
 rcases Nat.lt_or_ge q off with h1 | h1
 ·rw [List.getElem?_append_left (by omega), List.getElem?_take, if_pos h1, if_neg (by omega), Array.getElem?_toList]
 ·rw [List.getElem?_append_right (by omega), hl]
  rcases Nat.lt_or_ge q (off + vs.length) with h2 | h2
  ·rw [List.getElem?_append_left (by omega), if_pos ⟨h1, h2⟩]
  ·rw [List.getElem?_append_right (by omega), if_neg (by omega), List.getElem?_drop, Array.getElem?_toList]
   congr 1; omega
theorem Z5d (cur : Array Value) (off : Nat) (vs : List Value) (h : off + vs.length ≤ cur.size) : (cur.toList.take off ++ vs ++ cur.toList.drop (off + vs.length)).toArray.size = cur.size := by
 simp only [List.size_toArray, List.length_append, List.length_take, List.length_drop, Array.length_toList]; omega
theorem Z75 {t : Nat} {i : TI} (hz : TIOk P t i) {y z : Operand} (ho : o.op = .store t y z) {g off : Nat} (hy : a.eval y = .pointer (some ⟨g, off, none⟩)) {e : TypeId} {cur : Array Value} (hg : w.heap[g]? = some (.cells cur e (0, 0))) (hsize : (a.eval z).cells.toList.length = i.size)
  (h1 : ∀ u ∈ (a.eval z).cells.toList, u.oneCell' = true) (hb : off + i.size ≤ cur.size) :
  (execOp a.eval o).run P w = .ok .skip (w.setRow g (cur.toList.take off ++ (a.eval z).cells.toList ++ cur.toList.drop (off + (a.eval z).cells.toList.length)).toArray) := by
 have hst := run_storeCells_at (P := P) g off e (a.eval z).cells.toList 0 cur w hg (by rw [hsize]; simpa using hb) h1
 have hs' : (a.eval z).cells.size = i.size := by simpa using hsize
 rw [Nat.add_zero] at hst
 simp only [execOp, ho, Instr.storeAt, hy, Instr.sureAddr, storeVar, Sem.run_bind, Sem.run_pure, Result.andThen_ok, hz.size_run]
 rw [if_neg (by simp [hs'])]
 simp only [hst, Result.andThen_ok]
theorem Zbf {t : Nat} {y z : Operand} (ho : o.op = .store t y z) (hT : Zh P T) {i : TI} (hi : T t = some i) {id sz j : Nat} (hy : s.ev y = .ptr id 0 sz j) {e : TypeId} {cs : List AV} (hq : s.heap[id]? = some (.box e cs)) (hf : (s.ev z).full = true)
  (hsize : (cellsOf (s.ev z)).length = i.size) (hb : j + i.size ≤ cs.length) (hd : dOK X.n o.dst) (hK : K (St.put ⟨s.env, s.heap.set id (.box e (putA cs j (cellsOf (s.ev z))))⟩ o.dst .any)) : opWP P X o K s := by
 refine opWP.unit (fun σ F a w hr => ?_) hd
 have hid : id < s.heap.length := (List.getElem?_eq_some_iff.1 hq).1
 obtain ⟨g, vs, h1, h2, h3, h4, h5⟩ := hr.heap.obj id _ hq
 obtain ⟨g', b', c', n', h1', hv⟩ := RepV.ptrv (hy ▸ hr.ev y)
 rw [h1] at h1'
 injection h1' with h1'
 injection h1' with e1 e2 e3 e4
 subst e1 e2 e3 e4
 simp only [Nat.add_zero, Nat.zero_mul, Nat.zero_add] at hv
 have hx := hr.ev z
 obtain ⟨h6, h7, h8⟩ := hx.cells hf
 have hrun := Z75 (w := w) (hT _ _ hi) ho hv h2 (by rw [h6, hsize]) h7 (by simp; omega)
 have hgF : ¬ F g := (hr.heap.lt _ _ (.at h1)).2
 have hbb : j + (a.eval z).cells.toList.length ≤ vs.toArray.size := by rw [h6]; simp; omega
 refine ⟨_, σ, F, _, hrun, hr.setObj (ob := .box e (putA cs j (cellsOf (s.ev z)))) hid h1 ?_, hK⟩
 refine ⟨g, _, h1, setRow_heap w g _ _ e _ h2, ?_, ?_, fun q x u hq hu => ?_⟩
 ·simp only [putA, List.length_append, List.length_take, List.length_drop, List.toList_toArray]
  omega
 ·intro u hu
  obtain ⟨q, hq'⟩ := List.getElem?_of_mem hu
  have hget := Z2l vs.toArray j (a.eval z).cells.toList hbb q
  rw [List.getElem?_toArray] at hget
  rw [hget] at hq'
  split at hq'
  ·exact h7 u (List.mem_of_getElem? hq')
  ·exact h4 u (List.mem_of_getElem? (by simpa using hq'))
 ·have hget := Z2l vs.toArray j (a.eval z).cells.toList hbb q
  rw [List.getElem?_toArray] at hget
  rw [hget] at hu
  rw [Z9h _ _ _ _ (by omega)] at hq
  have hmv : ∀ x u, RepV σ F w x u → RepV σ F (w.setRow g (vs.toArray.toList.take j ++ (a.eval z).cells.toList ++ vs.toArray.toList.drop (j + (a.eval z).cells.toList.length)).toArray) x u :=
   fun x u h => h.mono (fun _ h => h) (fun b hb => setRow_other w g b _ (fun e => hgF (e ▸ hb)))
  rw [h6] at hu
  split at hq
  ·rename_i hcnd; rw [if_pos hcnd] at hu; exact hmv _ _ (h8 _ x u hq hu)
  ·rename_i hcnd; rw [if_neg hcnd] at hu; exact hmv _ _ (h5 q x u hq (by simpa using hu))
theorem Zbd {t : Nat} {y z : Operand} (ho : o.op = .store t y z) (hT : Zh P T) {i : TI} (hi : T t = some i) {id k sz j : Nat} (hy : s.ev y = .ptr id k sz j) {e : TypeId} {es : List (List AV)} (hq : s.heap[id]? = some (.row e sz es)) (hk : k < es.length) (hf : (s.ev z).full = true) (hfl : (cellsOf (s.ev z)).all AV.flat = true)
  (hsize : (cellsOf (s.ev z)).length = i.size) (hb : j + i.size ≤ sz) (hd : dOK X.n o.dst) (hK : K (St.put ⟨s.env, s.heap.set id (.row e sz (es.set k (putA (Z2 es k) j (cellsOf (s.ev z)))))⟩ o.dst .any)) : opWP P X o K s := by
 refine opWP.unit (fun σ F a w hr => ?_) hd
 have hid : id < s.heap.length := (List.getElem?_eq_some_iff.1 hq).1
 have hob := hr.heap.obj id _ hq
 obtain ⟨g, b, c, n, h1, hv⟩ := RepV.ptrv (hy ▸ hr.ev y)
 rcases hob with ⟨h2, _⟩ | ⟨g', b', c', cur, h2, hle, hbc, hg, hcs, hes, hcell⟩
 ·rw [h1] at h2; cases h2
 rw [h1] at h2
 injection h2 with h2
 injection h2 with e1 e2 e3 e4
 subst e1 e2 e3
 have hx := hr.ev z
 obtain ⟨h6, h7, h8⟩ := hx.cells hf
 have hrow : (b + k) * sz + sz ≤ cur.size := by
  rw [hcs, ← Nat.succ_mul]
  exact Nat.mul_le_mul_right _ (by omega)
 have hbb : (b + k) * sz + j + (a.eval z).cells.toList.length ≤ cur.size := by rw [h6, hsize]; omega
 have hrun := Z75 (w := w) (hT _ _ hi) ho hv hg (by rw [h6, hsize]) h7 (by omega)
 have hgF : ¬ F g := (hr.heap.lt _ _ (.at h1)).2
 have hrk : es[k]? = some (Z2 es k) := by simp [Z2, List.getElem?_eq_getElem hk]
 have hrl : (Z2 es k).length = sz := hes _ (List.mem_of_getElem? hrk)
 refine ⟨_, σ, F, _, hrun, hr.setObj (ob := .row e sz (es.set k (putA (Z2 es k) j (cellsOf (s.ev z))))) hid h1 ?_, hK⟩
 refine .inr ⟨g, b, c, _, by rw [h1, List.length_set, e4], by simpa using hle, hbc, setRow_heap w g _ _ e _ hg, by rw [Z5d _ _ _ hbb, hcs], fun r hr' => ?_, fun q r p x hq' hp => ?_⟩
 ·rcases List.mem_or_eq_of_mem_set hr' with h9 | h9
  ·exact hes r h9
  ·subst h9; simp [putA]; omega
 ·rw [Z2l _ _ _ hbb]
  have hmv : ∀ x u, RepF F w x u → RepF F (w.setRow g (cur.toList.take ((b + k) * sz + j) ++ (a.eval z).cells.toList ++ cur.toList.drop ((b + k) * sz + j + (a.eval z).cells.toList.length)).toArray) x u :=
   fun x u h => h.mono (fun _ h => h) (fun b hb => setRow_other w g b _ (fun e => hgF (e ▸ hb)))
  by_cases hqk : q = k
  ·subst hqk
   rw [List.getElem?_set_self hk] at hq'
   injection hq' with hq'
   subst hq'
   rw [Z9h _ _ _ _ (by omega)] at hp
   have hlen : (a.eval z).cells.toList.length = (cellsOf (s.ev z)).length := h6
   split at hp
   ·rename_i hcnd
    have hlt : p - j < (a.eval z).cells.toList.length := by omega
    rw [if_pos (by omega), show (b + q) * sz + p - ((b + q) * sz + j) = p - j by omega]
    refine ⟨_, List.getElem?_eq_getElem hlt, h7 _ (List.getElem_mem hlt), hmv _ _ ?_⟩
    exact (h8 _ x _ hp (List.getElem?_eq_getElem hlt)).toF (List.all_eq_true.1 hfl x (List.mem_of_getElem? hp))
   ·rename_i hcnd
    obtain ⟨u, h9, h10, h11⟩ := hcell q _ p x hrk hp
    rw [if_neg (by omega)]
    exact ⟨u, h9, h10, hmv _ _ h11⟩
  ·rw [List.getElem?_set_ne (by omega)] at hq'
   obtain ⟨u, h9, h10, h11⟩ := hcell q r p x hq' hp
   have hps : p < sz := by have := (List.getElem?_eq_some_iff.1 hp).1; rw [hes r (List.mem_of_getElem? hq')] at this; exact this
   rw [if_neg ?_]
   ·exact ⟨u, h9, h10, hmv _ _ h11⟩
   ·rintro ⟨h12, h13⟩
    rw [h6, hsize] at h13
    rcases Nat.lt_or_gt_of_ne hqk with h14 | h14
    ·have : (b + q + 1) * sz ≤ (b + k) * sz := Nat.mul_le_mul_right _ (by omega)
     rw [Nat.succ_mul] at this
     omega
    ·have : (b + k + 1) * sz ≤ (b + q) * sz := Nat.mul_le_mul_right _ (by omega)
     rw [Nat.succ_mul] at this
     omega
theorem Z9k {t e : Nat} {y z : Operand} (ho : o.op = .makeSlice t y z) (hT : Zh P T) {m p : Nat} {zv : Value} (ht : T t = some ⟨.slice e, m, p, zv⟩) {ti : TI} (hti : T e = some ti) {n : Int} {k k' : IntKind} (hy : s.ev y = .v (.int k n)) (hz : s.ev z = .v (.int k' n))
  (h0 : 0 ≤ n) (hfit : n * ti.bytes ≤ 140737488355328) (hby : 0 < ti.bytes) (hsz : 0 < ti.size) (hd : dOK X.n o.dst)
  (hK : K (St.put { s with heap := s.heap ++ [.row e ti.size (List.replicate n.toNat (ti.zero.cells.toList.map .v))] } o.dst (.own s.heap.length ti.size 0 n.toNat))) : opWPG P X o K s := by
 refine opWPG.mem (fun σ F a w hr => ?_) hd
 have hu : P.underlying t = some (.slice e) := (hT _ _ ht).kind
 have hzt := hT _ _ hti
 have hv1 : a.eval y = .int k n := RepV.val (hy ▸ hr.ev y)
 have hv2 : a.eval z = .int k' n := RepV.val (hz ▸ hr.ev z)
 obtain ⟨q, hq, h1, h2, h3⟩ := hzt.bytes_run (w := w)
 have hn : n ≤ 140737488355328 := by
  have : n * 1 ≤ n * (ti.bytes : Int) := Int.mul_le_mul_of_nonneg_left (by omega) h0
  omega
 have hwrap : IntKind.i64.wrap n = n := IntWalk.i64_in n (by omega)
 let cur : Array Value := (Array.range (n.toNat * ti.size)).map (ti.zero.cells[· % ti.zero.cells.size]!)
 have hcs : cur.size = n.toNat * ti.size := by simp [cur]
 have hbl : ¬ (281474976710656 < (ti.bytes : Int) * n) := by rw [Int.mul_comm]; omega
 have hrm : ¬ (roomBytes < n.toNat * ti.bytes) := by
  unfold roomBytes
  have : ((n.toNat * ti.bytes : Nat) : Int) = n * ti.bytes := by rw [Int.natCast_mul, Int.toNat_of_nonneg h0]
  omega
 have hrun : (execOp a.eval o).run P w = .ok (.value (.slice (some ⟨w.heap.size, 0, none⟩) n.toNat n.toNat)) (w.alloc (.cells cur e)) := by
  by_cases hz0 : n.toNat * ti.size = 0
  ·have hc0 : cur = #[] := Array.eq_empty_of_size_eq_zero (by rw [hcs]; exact hz0)
   rw [hc0]
   simp [execOp, ho, hv1, hv2, Instr.makeSlice, run_underlying hu, asInt, asIntOf, hq, h1, hwrap, hbl, show ¬ n < 0 by omega, askRoom, hrm, hzt.size_run, hz0, newRow, newObj, Sem.run]
   simp [Array.range]
  ·simp [execOp, ho, hv1, hv2, Instr.makeSlice, run_underlying hu, asInt, asIntOf, hq, h1, hwrap, hbl, show ¬ n < 0 by omega, askRoom, hrm, hzt.size_run, newRow, newObj, Sem.run]
   rw [if_neg (by simpa using hz0)]
   simp [hzt.zero_run, Sem.run, cur]
 have hrep : ∀ (i : Nat) (cs : List AV) (j : Nat) (x : AV), (List.replicate n.toNat (ti.zero.cells.toList.map AV.v))[i]? = some cs → cs[j]? = some x → ∃ u, cur[(0 + i) * ti.size + j]? = some u ∧ u.oneCell' = true ∧ RepF F (w.alloc (.cells cur e)) x u := fun i cs j x hi hj => by
  have hi' : i < n.toNat := by have := (List.getElem?_eq_some_iff.1 hi).1; simpa using this
  rw [List.getElem?_replicate, if_pos hi'] at hi
  injection hi with hi
  subst hi
  rw [List.getElem?_map, Option.map_eq_some_iff] at hj
  obtain ⟨u, hu', rfl⟩ := hj
  have hj' : j < ti.size := by have := (List.getElem?_eq_some_iff.1 hu').1; rw [Array.length_toList, hzt.cells] at this; exact this
  have hlt : i * ti.size + j < n.toNat * ti.size := by
   have : (i + 1) * ti.size ≤ n.toNat * ti.size := Nat.mul_le_mul_right _ hi'
   rw [Nat.succ_mul] at this
   omega
  have hm : (i * ti.size + j) % ti.zero.cells.size = j := by rw [hzt.cells, Nat.mul_comm, Nat.mul_add_mod, Nat.mod_eq_of_lt hj']
  refine ⟨u, ?_, List.all_eq_true.1 hzt.one u (List.mem_of_getElem? hu'), .v u⟩
  rw [Nat.zero_add]
  have hj2 : j < ti.zero.cells.size := by rw [hzt.cells]; exact hj'
  have hget : ti.zero.cells[j]! = u := by
   rw [Array.getElem?_toList] at hu'
   rw [getElem!_pos ti.zero.cells j hj2]
   rw [Array.getElem?_eq_getElem hj2] at hu'
   injection hu'
  simp only [cur, Array.getElem?_map, Array.getElem?_range]
  rw [if_pos hlt]
  simp only [Option.map_some, hm, hget]
 refine ⟨_, w.alloc (.cells cur e), _, F, _, _, hrun, Grow.alloc w _, hr.newBlock e cur (b := 0) (c := n.toNat) (n := n.toNat) ?_, ?_, hK⟩
 ·exact .inr ⟨w.heap.size, 0, n.toNat, cur, by rw [Z0]; simp, by simp, by simp only [maxLen]; omega, by simpa using heap_alloc_new w _, by simpa using hcs, fun cs hcs' => by rw [(List.mem_replicate.1 hcs').2]; simp [hzt.cells], hrep⟩
 ·have := RepV.own (σ := upd σ s.heap.length (some (.at_ w.heap.size 0 n.toNat n.toNat))) (F := F) (w := w.alloc (.cells cur e)) s.heap.length ti.size 0 n.toNat w.heap.size 0 n.toNat n.toNat (Z0 _ _ _) (by simp) (Nat.le_refl _)
  simpa using this
end
end Go.Proofs.YtnehieeplbgaiacDoor.Eng
set_option linter.unusedVariables false
set_option linter.unusedSimpArgs false
namespace Go.Proofs.YtnehieeplbgaiacDoor.Eng
open Go Go.RowKit
def idx : List Nat → Nat → Option Nat
 | [], _ => none
 | a :: r, i => if i = a then some 0 else (idx r i).map (· + 1)
theorem idx_some : ∀ {l : List Nat} {i k : Nat}, idx l i = some k → l[k]? = some i
 | a :: r, i, k, h => by
  unfold idx at h
  split at h
  ·rename_i e; injection h with h; subst h; simp [e]
  ·obtain ⟨q, hq, rfl⟩ := Option.map_eq_some_iff.1 h
   simpa using idx_some hq
theorem idx_none : ∀ {l : List Nat} {i : Nat}, idx l i = none → i ∉ l
 | [], i, _ => by simp
 | a :: r, i, h => by
  unfold idx at h
  split at h
  ·cases h
  ·rename_i e
   have := idx_none (Option.map_eq_none_iff.1 h)
   simp [e, this]
def Z1o (keep : List Nat) : AV → AV
 | .own id sz off len => match idx keep id with
  | some k => .own k sz off len
  | none => .any
 | .ptr id i sz j => match idx keep id with
  | some k => .ptr k i sz j
  | none => .any
 | .nm id q => match idx keep id with
  | some k => .nm k q
  | none => .any
 | x => x
def Z4r (keep : List Nat) (n k : Nat) : Nat :=
 match keep[k]? with
 | some i => i
 | none => n + (k - keep.length)
def Z1f (keep : List Nat) (n : Nat) : AV → AV
 | .own k sz off len => .own (Z4r keep n k) sz off len
 | .ptr k i sz j => .ptr (Z4r keep n k) i sz j
 | .nm k q => .nm (Z4r keep n k) q
 | x => x
def Z1r (keep : List Nat) (h : List AObj) : List AObj := keep.map fun i => ((h[i]?).getD .dead).sub (Z1o keep)
def Z1j (keep : List Nat) (h h' : List AObj) : List AObj :=
 (h.mapIdx fun i ob => match idx keep i with
  | some k => ((h'[k]?).getD .dead).sub (Z1f keep h.length)
  | none => ob) ++ (h'.drop keep.length).map (AObj.sub (Z1f keep h.length))
def ownB (σ : Nat → Option Blk) (g : Nat) : Prop := ∃ id, hasB σ id g
def FSpec (P : Program) (f : Nat) (h0 : List AObj) (args : List AV) (post : AV → List AObj → Prop) : Prop :=
 ∀ (σ : Nat → Option Blk) (F : Nat → Prop) (w : World) (vs : List Value), HRep σ F w h0 → args.length = vs.length → (∀ (j : Nat) (x : AV) (u : Value), args[j]? = some x → vs[j]? = some u → RepV σ F w x u) →
  Calls P f vs.toArray w fun e w' => ∃ ret h' σ' F' rv, post ret h' ∧ e = .returned rv ∧ RepV σ' F' w' ret rv ∧ HRep σ' F' w' h' ∧ Keep (ownB σ) w w' ∧
   (∀ id g, hasB σ' id g → ownB σ g ∨ w.heap.size ≤ g) ∧ (∀ b, F' b → F b ∨ ownB σ b ∨ w.heap.size ≤ b) ∧ (∀ id, id < h0.length → σ' id = σ id ∨ σ' id = none) ∧ h0.length ≤ h'.length
theorem FSpec.mono {P : Program} {f : Nat} {h0 : List AObj} {args : List AV} {post post' : AV → List AObj → Prop} (h : FSpec P f h0 args post) (hp : ∀ r h, post r h → post' r h) : FSpec P f h0 args post' :=
 fun σ F w vs h1 h2 h3 => (h σ F w vs h1 h2 h3).mono fun e w' ⟨ret, h', σ', F', rv, q, rest⟩ => ⟨ret, h', σ', F', rv, hp _ _ q, rest⟩
section
variable {P : Program} {T : Tab} {X : Ctx} {σ σ' : Nat → Option Blk} {F F' : Nat → Prop} {s s' : St} {a : Act} {w w' : World} {o : Oper} {c : Prop} {x : AV} {v : Value} {K : St → Prop}
theorem RepO.ren {id id' : Nat} {ob : AObj} {f : AV → AV} (h : RepO σ F w id ob) (hs : σ' id' = σ id) (hF : ∀ x y, RepF F w x y → RepF F' w' x y) (hM : ∀ b, F b → F' b ∧ w'.heap[b]? = w.heap[b]?)
  (hb : ∀ g, hasB σ id g → w'.heap[g]? = w.heap[g]?) (hv : ∀ x y, RepV σ F w x y → RepV σ' F' w' (x.sub f) y) : RepO σ' F' w' id' (ob.sub f) := by
 cases ob with
 | dead => exact hs.trans h
 | box e cs =>
  obtain ⟨g, vs, h1, h2, h3, h4, h5⟩ := h
  refine ⟨g, vs, hs.trans h1, (hb _ (.at h1)).trans h2, by rw [List.length_map]; exact h3, h4, fun j x u hx hu => ?_⟩
  rw [List.getElem?_map, Option.map_eq_some_iff] at hx
  obtain ⟨x', hx', rfl⟩ := hx
  exact hv _ _ (h5 j x' u hx' hu)
 | row e sz es =>
  rcases h with ⟨h1, h2⟩ | ⟨g, b, c, cur, h1, h2, h3, h4, h5, h6, h7⟩
  ·exact .inl ⟨hs.trans h1, h2⟩
  ·refine .inr ⟨g, b, c, cur, hs.trans h1, h2, h3, (hb _ (.at h1)).trans h4, h5, h6, fun i cs j x hi hj => ?_⟩
   obtain ⟨u, h8, h9, h10⟩ := h7 i cs j x hi hj
   exact ⟨u, h8, h9, hF _ _ h10⟩
 | mapo es =>
  obtain ⟨g, arr, clock, h1, h2, h3⟩ := h
  exact ⟨g, arr, clock, hs.trans h1, (hb _ ⟨_, h1, rfl⟩).trans h2, h3⟩
 | iter last es =>
  obtain ⟨g, om, since, seen, c0, h1, h2, h3⟩ := h
  exact ⟨g, om, since, seen, c0, hs.trans h1, (hb _ ⟨_, h1, rfl⟩).trans h2, h3.mono hM⟩
 | lin e ei sz isz part hole es =>
  obtain ⟨R, B, V, h1, h2⟩ := h
  exact ⟨R, B, V, hs.trans h1, h2.mono hF (fun g hg => hb g ⟨_, h1, hg⟩)⟩
def selσ (keep : List Nat) (σ : Nat → Option Blk) : Nat → Option Blk := fun k => (keep[k]?).bind σ
theorem RepV.sel {keep : List Nat} (h : RepV σ F w x v) : RepV (selσ keep σ) F w (x.sub (Z1o keep)) v := by
 refine h.sub (fun _ _ h => h) (fun id sz off len y h => ?_) (fun id i sz j y h => ?_) (fun id q y h => ?_)
 ·simp only [Z1o]
  split
  ·rename_i k hk
   have hs : selσ keep σ k = σ id := by simp [selσ, idx_some hk]
   cases h with
   | f _ _ h => cases h
   | own0 _ _ h => exact .own0 _ _ (hs.trans h)
   | own _ _ _ _ g b c n h hn hc => exact .own _ _ _ _ g b c n (hs.trans h) hn hc
   | ownz _ _ _ g b c n a h hn hc => exact .ownz _ _ _ g b c n a (hs.trans h) hn hc
  ·exact .f _ _ (.any _)
 ·simp only [Z1o]
  split
  ·rename_i k hk
   have hs : selσ keep σ k = σ id := by simp [selσ, idx_some hk]
   cases h with
   | f _ _ h => cases h
   | ptr _ _ _ _ g b c n h => exact .ptr _ _ _ _ g b c n (hs.trans h)
  ·exact .f _ _ (.any _)
 ·simp only [Z1o]
  split
  ·rename_i k hk
   have hs : selσ keep σ k = σ id := by simp [selσ, idx_some hk]
   cases h with
   | f _ _ h => cases h
   | nm _ _ gs V h h1 => exact .nm _ _ gs V (hs.trans h) h1
  ·exact .f _ _ (.any _)
theorem Z2o {keep : List Nat} {k g : Nat} (h : hasB (selσ keep σ) k g) : ∃ i, keep[k]? = some i ∧ hasB σ i g := by
 obtain ⟨q, h1, h2⟩ := h
 obtain ⟨i, hi, h1⟩ := Option.bind_eq_some_iff.1 h1
 exact ⟨i, hi, q, h1, h2⟩
theorem HRep.sel {h : List AObj} (hr : HRep σ F w h) {keep : List Nat} (hnd : keep.Nodup) (hin : ∀ i ∈ keep, i < h.length) : HRep (selσ keep σ) F w (Z1r keep h) := by
 refine ⟨fun k ob hk => ?_, fun k hk => ?_, fun k k' g h1 h2 => ?_, fun k g h1 => ?_, hr.flt, hr.lay⟩
 ·simp only [Z1r, List.getElem?_map, Option.map_eq_some_iff] at hk
  obtain ⟨i, hi, rfl⟩ := hk
  have hlt := hin i (List.mem_of_getElem? hi)
  rw [List.getElem?_eq_getElem hlt, Option.getD_some]
  exact (hr.obj i _ (List.getElem?_eq_getElem hlt)).ren (by simp [selσ, hi]) (fun _ _ h => h) (fun _ h => ⟨h, rfl⟩) (fun _ _ => rfl) (fun _ _ h => h.sel)
 ·simp only [Z1r, List.length_map] at hk
  simp [selσ, List.getElem?_eq_none hk]
 ·obtain ⟨i, hi, h1⟩ := Z2o h1
  obtain ⟨i', hi', h2⟩ := Z2o h2
  have := hr.inj _ _ _ h1 h2
  subst this
  have l1 := (List.getElem?_eq_some_iff.1 hi).1
  exact (List.getElem?_inj l1 hnd).1 (hi.trans hi'.symm)
 ·obtain ⟨i, hi, h1⟩ := Z2o h1
  exact hr.lt _ _ h1
def St.back (s : St) (keep : List Nat) (h' : List AObj) : St := ⟨s.env, Z1j keep s.heap h'⟩
def backσ (n m : Nat) (σ σ' : Nat → Option Blk) : Nat → Option Blk := fun id => if id < n then σ id else σ' (id - n + m)
theorem RepAt.back (hr : RepAt X σ F s a w) {keep : List Nat} (hnd : keep.Nodup) (hin : ∀ i ∈ keep, i < s.heap.length) {h' : List AObj} {ret : AV} {rv : Value} (hret : RepV σ' F' w' ret rv) (hh : HRep σ' F' w' h') (hk : Keep (ownB (selσ keep σ)) w w')
  (hown : ∀ id g, hasB σ' id g → ownB (selσ keep σ) g ∨ w.heap.size ≤ g) (hF' : ∀ b, F' b → F b ∨ ownB (selσ keep σ) b ∨ w.heap.size ≤ b) (hst : ∀ id, id < keep.length → σ' id = selσ keep σ id ∨ σ' id = none) (hlen : keep.length ≤ h'.length)
  (hlive : ∀ k, k < keep.length → h'[k]? ≠ some .dead) :
  RepAt X (backσ s.heap.length keep.length σ σ') (fun b => F b ∨ F' b) (s.back keep h') a w' ∧ RepV (backσ s.heap.length keep.length σ σ') (fun b => F b ∨ F' b) w' (ret.sub (Z1f keep s.heap.length)) rv := by
 have hsame : ∀ k, k < keep.length → σ' k = selσ keep σ k := fun k hk' => by
  rcases hst k hk' with h | h
  ·exact h
  ·have hlt : k < h'.length := by omega
   have hob := hh.obj k _ (List.getElem?_eq_getElem hlt)
   have hd := hlive k hk'
   rw [List.getElem?_eq_getElem hlt] at hd
   cases ho : h'[k] with
   | dead => rw [ho] at hd; exact absurd rfl hd
   | box e cs => rw [ho] at hob; obtain ⟨g, vs, h1, _⟩ := hob; rw [h] at h1; cases h1
   | row e sz es =>
    rw [ho] at hob
    rcases hob with ⟨h1, _⟩ | ⟨g, b, c, cur, h1, _⟩ <;> (rw [h] at h1; cases h1)
   | mapo es => rw [ho] at hob; obtain ⟨g, arr, clock, h1, _⟩ := hob; rw [h] at h1; cases h1
   | iter last es => rw [ho] at hob; obtain ⟨g, om, since, seen, c0, h1, _⟩ := hob; rw [h] at h1; cases h1
   | lin e ei sz isz part hole es => rw [ho] at hob; obtain ⟨R, B, V, h1, _⟩ := hob; rw [h] at h1; cases h1
 have hsel : ∀ k i, keep[k]? = some i → σ' k = σ i := fun k i hi => by
  rw [hsame k (List.getElem?_eq_some_iff.1 hi).1]; simp [selσ, hi]
 have hOB : ∀ g, ownB (selσ keep σ) g → ∃ i, i ∈ keep ∧ hasB σ i g := fun g hg => by
  obtain ⟨k, h⟩ := hg
  obtain ⟨i, hi, h1⟩ := Z2o h
  exact ⟨i, List.mem_of_getElem? hi, h1⟩
 have hFb : ∀ b, F b → w'.heap[b]? = w.heap[b]? := fun b hb => hk.block b (hr.heap.flt b hb) (fun hg => by
  obtain ⟨i, _, h1⟩ := hOB b hg
  exact (hr.heap.lt _ _ h1).2 hb)
 let σ2 := backσ s.heap.length keep.length σ σ'
 let F2 : Nat → Prop := fun b => F b ∨ F' b
 have hold : ∀ id, id < s.heap.length → σ2 id = σ id := fun id hid => by simp [σ2, backσ, hid]
 have hext : ∀ id k, σ id = some k → σ2 id = some k := fun id k h => by
  have hid : id < s.heap.length := Nat.lt_of_not_le fun hge => by rw [hr.heap.out id hge] at h; cases h
  rw [hold id hid]; exact h
 have hRF : ∀ x y, RepF F w x y → RepF F2 w' x y := fun x y h => h.mono (fun _ h => .inl h) hFb
 have hRF' : ∀ x y, RepF F' w' x y → RepF F2 w' x y := fun x y h => h.mono (fun _ h => .inr h) (fun _ _ => rfl)
 have hRV : ∀ x y, RepV σ F w x y → RepV σ2 F2 w' x y := fun x y h => (h.mono (fun _ h => .inl h) hFb).grow hext
 have hback : ∀ k q, σ' k = some q → σ2 (Z4r keep s.heap.length k) = some q := fun k q h => by
  unfold Z4r
  split
  ·rename_i i hi
   rw [hold i (hin i (List.mem_of_getElem? hi)), ← hsel k i hi]; exact h
  ·rename_i hi
   have hge : keep.length ≤ k := by simpa using hi
   simp only [σ2, backσ]
   rw [if_neg (by omega), show s.heap.length + (k - keep.length) - s.heap.length + keep.length = k by omega]
   exact h
 have hRV' : ∀ x y, RepV σ' F' w' x y → RepV σ2 F2 w' (x.sub (Z1f keep s.heap.length)) y := fun x y h => by
  refine h.sub hRF' (fun id sz off len y h => ?_) (fun id i sz j y h => ?_) (fun id q y h => ?_)
  ·simp only [Z1f]
   cases h with
   | f _ _ h => cases h
   | own0 _ _ h => exact .own0 _ _ (hback _ _ h)
   | own _ _ _ _ g b c n h hn hc => exact .own _ _ _ _ g b c n (hback _ _ h) hn hc
   | ownz _ _ _ g b c n a h hn hc => exact .ownz _ _ _ g b c n a (hback _ _ h) hn hc
  ·simp only [Z1f]
   cases h with
   | f _ _ h => cases h
   | ptr _ _ _ _ g b c n h => exact .ptr _ _ _ _ g b c n (hback _ _ h)
  ·simp only [Z1f]
   cases h with
   | f _ _ h => cases h
   | nm _ _ gs V h h1 => exact .nm _ _ gs V (hback _ _ h) h1
 have hhl : (Z1j keep s.heap h').length = s.heap.length + (h'.length - keep.length) := by simp [Z1j]
 have hcase : ∀ id g, hasB σ2 id g → (id < s.heap.length ∧ hasB σ id g) ∨ (s.heap.length ≤ id ∧ hasB σ' (id - s.heap.length + keep.length) g) := fun id g h => by
  obtain ⟨q, h, hg⟩ := h
  by_cases hid : id < s.heap.length
  ·exact .inl ⟨hid, q, by rw [← hold id hid]; exact h, hg⟩
  ·simp only [σ2, backσ, if_neg hid] at h
   exact .inr ⟨by omega, q, h, hg⟩
 have hselB : ∀ k i g, keep[k]? = some i → hasB σ i g → hasB σ' k g := fun k i g hi h => by
  obtain ⟨q, h1, h2⟩ := h
  exact ⟨q, (hsel k i hi).trans h1, h2⟩
 have hnewg : ∀ k g, keep.length ≤ k → hasB σ' k g → ∀ i, ¬ hasB σ i g := fun k g hk' h i h1 => by
  rcases hown k g h with h2 | h2
  ·obtain ⟨i2, hi2, h3⟩ := hOB g h2
   have := hr.heap.inj _ _ _ h1 h3
   subst this
   obtain ⟨q, hq⟩ := List.getElem?_of_mem hi2
   have h4 := hselB q i g hq h1
   have := hh.inj _ _ _ h h4
   have := (List.getElem?_eq_some_iff.1 hq).1
   omega
  ·have := (hr.heap.lt _ _ h1).1; omega
 refine ⟨⟨hr.defers.keep fun D hD hn => ⟨hk.block D (Z1n hD) (fun hg => by obtain ⟨i, _, h⟩ := hOB D hg; exact hr.heap.nodef h hD), fun h => h.elim hn (fun h => by
  rcases hF' D h with h | h | h
  ·exact hn h
  ·obtain ⟨i, _, h⟩ := hOB D h; exact hr.heap.nodef h hD
  ·have := Z1n hD; omega)⟩, hr.size, fun i => hRV _ _ (hr.env i), ⟨fun id ob ho => ?_, fun id hid => ?_, fun id id' g h1 h2 => ?_, fun id g h => ?_, fun b hb => ?_, hr.heap.lay.mono (fun _ h => .inl h) hFb⟩, ?_, fun id g h => ?_, fun b hb => ?_, fun id hid => ?_, ?_⟩, hRV' _ _ hret⟩
 ·simp only [St.back, Z1j] at ho
  rcases Nat.lt_or_ge id s.heap.length with hlt | hge
  ·rw [List.getElem?_append_left (by simpa using hlt), List.getElem?_mapIdx, List.getElem?_eq_getElem hlt] at ho
   simp only [Option.map_some, Option.some.injEq] at ho
   split at ho
   ·rename_i k hk'
    have hki := idx_some hk'
    have hkl : k < h'.length := by have := (List.getElem?_eq_some_iff.1 hki).1; omega
    rw [List.getElem?_eq_getElem hkl, Option.getD_some] at ho
    subst ho
    exact (hh.obj k _ (List.getElem?_eq_getElem hkl)).ren ((hold id hlt).trans (hsel k id hki).symm) hRF' (fun _ h => ⟨.inr h, rfl⟩) (fun _ _ => rfl) hRV'
   ·rename_i hk'
    subst ho
    rw [← AObj.sub_id s.heap[id]]
    refine (hr.heap.obj id _ (List.getElem?_eq_getElem hlt)).ren (hold id hlt) hRF (fun b hb => ⟨.inl hb, hFb b hb⟩) (fun g h => hk.block g (hr.heap.lt _ _ h).1 (fun hg => ?_)) (fun x y h => by rw [AV.sub_id]; exact hRV x y h)
    obtain ⟨i2, hi2, h3⟩ := hOB g hg
    have := hr.heap.inj _ _ _ h h3
    subst this
    exact idx_none hk' hi2
  ·rw [List.getElem?_append_right (by simpa using hge), List.length_mapIdx, List.getElem?_map, Option.map_eq_some_iff] at ho
   obtain ⟨ob', ho', rfl⟩ := ho
   rw [List.getElem?_drop] at ho'
   refine (hh.obj _ _ ho').ren ?_ hRF' (fun _ h => ⟨.inr h, rfl⟩) (fun _ _ => rfl) hRV'
   simp only [backσ]
   rw [if_neg (by omega), Nat.add_comm]
 ·rw [St.back, hhl] at hid
  simp only [backσ]
  rw [if_neg (by omega)]
  exact hh.out _ (by omega)
 ·rcases hcase _ _ h1 with ⟨e1, h3⟩ | ⟨e1, h3⟩ <;> rcases hcase _ _ h2 with ⟨e2, h4⟩ | ⟨e2, h4⟩
  ·exact hr.heap.inj _ _ _ h3 h4
  ·exact absurd h3 (hnewg _ _ (by omega) h4 _)
  ·exact absurd h4 (hnewg _ _ (by omega) h3 _)
  ·have := hh.inj _ _ _ h3 h4
   omega
 ·rcases hcase _ _ h with ⟨e1, h3⟩ | ⟨e1, h3⟩
  ·have h5 := hr.heap.lt _ _ h3
   refine ⟨Nat.lt_of_lt_of_le h5.1 hk.size, fun hb => ?_⟩
   rcases hb with hb | hb
   ·exact h5.2 hb
   ·rcases hF' g hb with h6 | h6 | h6
    ·exact h5.2 h6
    ·obtain ⟨i2, hi2, h7⟩ := hOB g h6
     obtain ⟨q, hq⟩ := List.getElem?_of_mem hi2
     exact (hh.lt _ _ (hselB q i2 g hq h7)).2 hb
    ·omega
  ·have h5 := hh.lt _ _ h3
   refine ⟨h5.1, fun hb => ?_⟩
   rcases hb with hb | hb
   ·rcases hown _ _ h3 with h6 | h6
    ·obtain ⟨i2, _, h7⟩ := hOB g h6
     exact (hr.heap.lt _ _ h7).2 hb
    ·have := hr.heap.flt _ hb; omega
   ·exact h5.2 hb
 ·rcases hb with hb | hb
  ·exact Nat.lt_of_lt_of_le (hr.heap.flt b hb) hk.size
  ·exact hh.flt b hb
 ·refine hr.keep.trans hk (fun g hg hm => ⟨hm, fun hob => ?_⟩)
  obtain ⟨i, _, h⟩ := hOB g hob
  rcases hr.own _ _ h with h1 | h1
  ·exact hm h1
  ·omega
 ·rcases hcase _ _ h with ⟨_, h3⟩ | ⟨_, h3⟩
  ·exact hr.own _ _ h3
  ·rcases hown _ _ h3 with h4 | h4
   ·obtain ⟨i, _, h5⟩ := hOB g h4
    exact hr.own _ _ h5
   ·exact .inr (Nat.le_trans hr.keep.size h4)
 ·rcases hb with hb | hb
  ·exact hr.fnew b hb
  ·rcases hF' b hb with h4 | h4 | h4
   ·exact hr.fnew b h4
   ·obtain ⟨i, _, h5⟩ := hOB b h4
    rcases hr.own _ _ h5 with h6 | h6
    ·exact .inr (.inl h6)
    ·exact .inr (.inr h6)
   ·exact .inr (.inr (Nat.le_trans hr.keep.size h4))
 ·have hlt : id < s.heap.length := Nat.lt_of_lt_of_le hid hr.hm
  rw [show backσ s.heap.length keep.length σ σ' id = σ id from hold id hlt]
  exact hr.stab id hid
 ·rw [St.back, hhl]; have := hr.hm; omega
end
end Go.Proofs.YtnehieeplbgaiacDoor.Eng
set_option linter.unusedVariables false
set_option linter.unusedSimpArgs false
namespace Go.Proofs.YtnehieeplbgaiacDoor.Eng
open Go Go.RowKit
def AV.leL : List AV → List AV → Prop
 | [], [] => True
 | x :: r, y :: q => AV.le x y ∧ AV.leL r q
 | _, _ => False
theorem AV.leL_len : ∀ {l l' : List AV}, AV.leL l l' → l.length = l'.length
 | [], [], _ => rfl
 | _ :: _, _ :: _, h => by simp [AV.leL_len h.2]
theorem AV.leL_get : ∀ {l l' : List AV}, AV.leL l l' → ∀ (j : Nat) (x y : AV), l[j]? = some x → l'[j]? = some y → AV.le x y
 | x :: r, y :: q, h, 0, _, _, h1, h2 => by simp at h1 h2; subst h1 h2; exact h.1
 | x :: r, y :: q, h, j + 1, _, _, h1, h2 => AV.leL_get h.2 j _ _ (by simpa using h1) (by simpa using h2)
theorem leL_of_get : ∀ {l l' : List AV}, l.length = l'.length → (∀ (j : Nat) (x y : AV), l[j]? = some x → l'[j]? = some y → AV.le x y) → AV.leL l l'
 | [], [], _, _ => trivial
 | x :: r, y :: r', hl, h => ⟨h 0 x y rfl rfl, leL_of_get (by simpa using hl) (fun j x y hx hy => h (j + 1) x y (by simpa using hx) (by simpa using hy))⟩
theorem AV.leTup {l l' : List AV} (h : AV.leL l l') : AV.le (.tup l) (.tup l') := .tup _ _ (AV.leL_len h) (AV.leL_get h)
theorem AV.leFn {f : Nat} {l l' : List AV} (h : AV.leL l l') : AV.le (.fn f l) (.fn f l') := .fn f _ _ (AV.leL_len h) (AV.leL_get h)
theorem AV.leRp {l l' : List AV} (h : AV.leL l l') : AV.le (.rp l) (.rp l') := .rpLe _ _ (AV.leL_len h) (AV.leL_get h)
theorem AV.leAgg {l l' : List AV} (h : AV.leL l l') : AV.le (.agg l) (.agg l') := .agg _ _ (AV.leL_len h) (AV.leL_get h)
section
variable {P : Program} {T : Tab} {X : Ctx} {σ σ' : Nat → Option Blk} {F F' : Nat → Prop} {s s' : St} {a : Act} {w w' : World} {o : Oper} {c : Prop} {x : AV} {v : Value} {K : St → Prop}
theorem RepV.fnv {f : Nat} {cs : List AV} {y : Value} (h : RepV σ F w (.fn f cs) y) : ∃ vs : List Value, y = .func (.func f) #[] vs.toArray ∧ cs.length = vs.length ∧ ∀ (j : Nat) (x : AV) (u : Value), cs[j]? = some x → vs[j]? = some u → RepV σ F w x u := by
 cases h with
 | f _ _ h => cases h with
  | fn _ _ vs hl h => exact ⟨vs, rfl, hl, fun j x u hx hu => .f _ _ (h j x u hx hu)⟩
 | fn _ _ vs hl h => exact ⟨vs, rfl, hl, h⟩
def Z1d (k : Nat) : List AV → List (Nat × AV)
 | [] => []
 | x :: r => (k, x) :: Z1d (k + 1) r
theorem envGet_enum : ∀ (l : List AV) (k i : Nat), envGet (Z1d k l) i = if k ≤ i then (l[i - k]?).getD .any else .any
 | [], k, i => by simp [Z1d, envGet]
 | x :: r, k, i => by
  simp only [Z1d, envGet]
  by_cases h : i = k
  ·subst h; simp
  ·rw [if_neg h, envGet_enum r (k + 1) i]
   by_cases h2 : k + 1 ≤ i
   ·rw [if_pos h2, if_pos (by omega), show i - k = (i - (k + 1)) + 1 by omega]; simp
   ·rw [if_neg h2, if_neg (by omega)]
def Z7a (T : Tab) (s : St) : ResultVar → Option (Prop × AV)
 | .tmp t => some (True, envGet s.env t)
 | .cell p ty => match T ty, envGet s.env p with
  | some i, .ptr id k sz j => some ((Zu s.heap[id]? k sz).1 ∧ j + i.size ≤ (Zu s.heap[id]? k sz).2.length ∧ 0 < i.size ∧ (i.k.agg = false → i.size = 1), Z12 i ((Zu s.heap[id]? k sz).2.drop j))
  | _, _ => none
def Z5g (T : Tab) (s : St) : List ResultVar → Option (Prop × List AV)
 | [] => some (True, [])
 | r :: rs => match Z7a T s r, Z5g T s rs with
  | some (c, x), some (d, xs) => some (c ∧ d, x :: xs)
  | _, _ => none
def retAV : List AV → AV
 | [x] => x
 | xs => .tup xs
theorem Zge (hT : Zh P T) (hr : RepAt X σ F s a w) {r : ResultVar} (h : Z7a T s r = some (c, x)) (hc : c) :
  ∃ v, ((match r with | .tmp t => pure (a.tmps.getD t undef) | .cell p t => do loadVar t (← asAddr (a.tmps.getD p undef)) : Sem Value)).run P w = .ok v w ∧ RepV σ F w x v := by
 cases r with
 | tmp t =>
  simp only [Z7a, Option.some.injEq, Prod.mk.injEq] at h
  obtain ⟨_, rfl⟩ := h
  exact ⟨_, rfl, hr.env t⟩
 | cell p ty =>
  simp only [Z7a] at h
  split at h
  ·rename_i i id k sz j hi hp
   simp only [Option.some.injEq, Prod.mk.injEq] at h
   obtain ⟨rfl, rfl⟩ := h
   obtain ⟨v, h1, h2⟩ := Z6e (P := P) (o := { dst := none, op := .load ty (.tmp p), type := 0, pos := "", after := #[], guard := none }) (y := .tmp p) (hT _ _ hi) hr rfl hp hc.1 hc.2.1 hc.2.2.1 hc.2.2.2
   obtain ⟨g, b, c', n, hs, he⟩ := RepV.ptrv (hp ▸ hr.env p)
   replace h1 := h1 w (Grow.refl w)
   refine ⟨v, ?_, h2⟩
   have he' : a.eval (.tmp p) = .pointer (some ⟨g, (b + k) * sz + j, none⟩) := he
   simp only [execOp, he', Instr.loadAt, Instr.sureAddr, Sem.run_bind, Sem.run_pure, Result.andThen_ok] at h1
   simp only [he, asAddr, Sem.run_bind, Sem.run_pure, Result.andThen_ok]
   cases hl : (loadVar ty ⟨g, (b + k) * sz + j, none⟩).run P w with
   | ok q w2 =>
    rw [hl] at h1
    simp only [Result.andThen_ok] at h1
    injection h1 with h3 h4
    injection h3 with h3
    rw [h3, h4]
   | halt q w2 => rw [hl] at h1; cases h1
  ·cases h
theorem Z8j (hT : Zh P T) (hr : RepAt X σ F s a w) {fn : Func} {xs : List AV} (h : Z5g T s fn.results.toList = some (c, xs)) (hc : c) : ∃ v, (results fn a.tmps).run P w = .ok v w ∧ RepV σ F w (retAV xs) v := by
 have key : ∀ (rs : List ResultVar) (c : Prop) (xs : List AV), Z5g T s rs = some (c, xs) → c → ∃ vs : List Value, (rs.mapM (fun r => (match r with | .tmp t => pure (a.tmps.getD t undef) | .cell p t => do loadVar t (← asAddr (a.tmps.getD p undef)) : Sem Value))).run P w = .ok vs w ∧ xs.length = vs.length ∧
   ∀ (j : Nat) (x : AV) (u : Value), xs[j]? = some x → vs[j]? = some u → RepV σ F w x u := by
  intro rs
  induction rs with
  | nil =>
   intro c xs h _
   simp only [Z5g, Option.some.injEq, Prod.mk.injEq] at h
   obtain ⟨_, rfl⟩ := h
   exact ⟨[], by simp, rfl, by simp⟩
  | cons r rs ih =>
   intro c xs h hc
   simp only [Z5g] at h
   split at h
   ·rename_i c1 x1 d1 xs1 h1 h2
    simp only [Option.some.injEq, Prod.mk.injEq] at h
    obtain ⟨rfl, rfl⟩ := h
    obtain ⟨v, hv, hrep⟩ := Zge (P := P) hT hr h1 hc.1
    obtain ⟨vs, hvs, hl, hreps⟩ := ih d1 xs1 h2 hc.2
    refine ⟨v :: vs, ?_, by simp [hl], fun j x u hx hu => ?_⟩
    ·rw [List.mapM_cons, Sem.run_bind, hv]
     simp only [Result.andThen_ok, Sem.run_bind, hvs, Sem.run_pure]
    ·cases j with
     | zero => simp at hx hu; subst hx hu; exact hrep
     | succ j => exact hreps j x u (by simpa using hx) (by simpa using hu)
   ·cases h
 obtain ⟨vs, h1, h2, h3⟩ := key _ _ _ h hc
 have hm : (results fn a.tmps).run P w = .ok (if h : vs.toArray.size = 1 then vs.toArray[0] else .tuple vs.toArray) w := by
  unfold results
  rw [Sem.run_bind, Array.mapM_eq_mapM_toList]
  rw [map_eq_pure_bind, Sem.run_bind]
  erw [h1]
  simp only [Result.andThen_ok, Sem.run_pure]
 refine ⟨_, hm, ?_⟩
 by_cases hone : vs.length = 1
 ·obtain ⟨u, rfl⟩ := List.length_eq_one_iff.1 hone
  obtain ⟨x, rfl⟩ := List.length_eq_one_iff.1 (h2.trans hone)
  simp only [retAV]
  exact h3 0 x u rfl rfl
 ·rw [dif_neg (by simpa using hone)]
  have : retAV xs = .tup xs := by
   match xs, h2 with
   | [], _ => rfl
   | [x], h2 => simp at h2; omega
   | _ :: _ :: _, _ => rfl
  rw [this]
  exact .tup xs vs h2 h3
end
end Go.Proofs.YtnehieeplbgaiacDoor.Eng
