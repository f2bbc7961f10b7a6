/-
  The types of this seat's program, as a table. No condition.
-/
import Derived.Test.YtahlodpolggeiaaGreatDoorTypC
import Derived.Shelf.SlIter.Nil
import Derived.Test.YtahlodpolggeiaaGreatDoorProg
import Derived.KernelRfl
import Derived.Shelf.Abstract
import Derived.Tactics
import Derived.Shelf.LaysM
import Derived.Shelf.Strconv.Itoa3
import Derived.Shelf.Strconv.Atoi
import Derived.Shelf.Strings.OnBuilder
import Derived.Shelf.Strings.Repeat
import Derived.Shelf.SlSorted.Search
import Derived.WalkKit
import Derived.Ground.NamesProg
import Derived.Shelf.Small.Strs
import Derived.Shelf.Strings.Search2
import Derived.Shelf.Strings.Count
import Derived.Shelf.Slices.Reverse
import Derived.Shelf.Strings.SlTrimAscii
import Derived.Shelf.GgClosure.StringsRunes
import Derived.Ground.GgwProg
import Derived.Shelf.Sort.Plain
import Derived.Shelf.Sort.AssemblysIn
import Derived.Shelf.Slices.CompactS
import Derived.Shelf.Slices.In.SortNone
import Derived.Shelf.SortM.Plain
import Derived.Shelf.SortM.SortNone
import Derived.Ground.GgzProg
import Derived.Ground.SlgmProg
set_option linter.unusedVariables false
set_option linter.unusedSimpArgs false
namespace Go.Proofs.YtahlodpolggeiaaGreatDoor.Eng
open Go Go.RowKit
def Z2p (es : List (ByteArray × Value)) : List (List UInt8) := es.map fun p => p.1.data.toList
theorem Z8f {es : List (ByteArray × Value)} (h : MUp es) : (Z2p es).Pairwise (fun x y => x ≤ y) := by
 unfold Z2p
 rw [List.pairwise_map]
 exact h.imp fun {p q} hpq => List.le_of_lt (of_decide_eq_true hpq)
theorem Zf5 {es : List (ByteArray × Value)} (h : MUp es) {ss : List (List UInt8)} (hp : List.Perm ss (Z2p es)) : ss.mergeSort (fun x y => decide (x ≤ y)) = Z2p es := by
 have h1 : (ss.mergeSort (fun x y => decide (x ≤ y))).Pairwise (fun x y => x ≤ y) := by
  have := List.pairwise_mergeSort (le := fun x y : List UInt8 => decide (x ≤ y)) (fun a b c h1 h2 => decide_eq_true (List.le_trans (of_decide_eq_true h1) (of_decide_eq_true h2))) (fun a b => by
   rcases List.le_total a b with h | h
   ·simp [h]
   ·simp [h]) ss
  exact this.imp fun {a b} h => of_decide_eq_true h
 exact List.Perm.eq_of_pairwise (fun a b _ _ h1 h2 => List.le_antisymm h1 h2) h1 (Z8f h) ((List.mergeSort_perm _ _).trans hp)
section
variable {P : Program}
def anyR : Value → Option (DataW Unit × List MemPlace) := fun _ => some (.lit (.bool false), [])
theorem Zjd {kt : TypeId} (hk : P.underlying kt = some .string) {x : MapEntry} {b : ByteArray} (hx : x.key = .string b) (hs : b.size ≤ maxLen) : WideElems.rg P kt anyR x = (.string b.data.toList, .lit (.bool false)) ∧ ∃ y, WideElems.rd P kt anyR x = some y := by
 have h : WideElems.rd P kt anyR x = some (.string b.data.toList, .lit (.bool false)) := by
  unfold WideElems.rd
  rw [hx, WideMaps.keyOf_string_mk hk hs]
  rfl
 exact ⟨by unfold WideElems.rg; rw [h]; rfl, _, h⟩
theorem Zia {kt : TypeId} (hk : P.underlying kt = some .string) {w : World} {m : Nat} {arr : Array MapEntry} {clock : Nat} {es : List (ByteArray × Value)} (hm : w.heap[m]? = some (.map arr clock)) (hi : MapIs arr clock es) (hsz : ∀ p ∈ es, p.1.size ≤ maxLen) (hlen : es.length ≤ maxLen) :
  ∃ D0 : DataW Unit, w.ownsMap P kt anyR m arr.size D0 ∧ Maps.size D0 = es.length ∧ List.Perm (strKeys D0) (Z2p es) := by
 obtain ⟨⟨es0, h1, h2⟩, h3, h4, h5⟩ := hi
 have hkey : ∀ x ∈ arr.toList, ∃ p ∈ es0, x.key = .string p.1 := fun x hx => by
  have : Z3o x ∈ es0.map pairK := by rw [← h1]; exact List.mem_map_of_mem hx
  obtain ⟨p, hp, e⟩ := List.mem_map.1 this
  simp only [Z3o, pairK, Prod.mk.injEq] at e
  exact ⟨p, hp, e.1.symm⟩
 have hsz0 : arr.size = es.length := by
  have := congrArg List.length h1
  rw [List.length_map, List.length_map] at this
  rw [← Array.length_toList, this]
  exact h2.length_eq
 have F : WideElems.Fit P kt anyR arr clock := by
  refine ⟨by rw [hsz0]; exact hlen, ⟨h5, h4, ?_⟩, fun x hx => ?_⟩
  ·have e1 : arr.toList.map (·.key) = es0.map fun p => Value.string p.1 := by
    have := congrArg (List.map Prod.fst) h1
    rw [List.map_map, List.map_map] at this
    exact this
   rw [e1]
   have hn : (es0.map (·.1)).Nodup := (h2.map _).nodup_iff.2 h3.nodup
   have e2 : (es0.map fun p => Value.string p.1) = (es0.map (·.1)).map Value.string := by rw [List.map_map]; rfl
   rw [e2]
   exact List.Pairwise.map _ (fun a b h e => h (by injection e)) hn
  ·obtain ⟨p, hp, e⟩ := hkey x hx
   exact (Zjd hk e (hsz p (h2.mem_iff.1 hp))).2
 refine ⟨_, World.ownsMap_of_fit hm F (fun _ _ _ h => h), ?_, ?_⟩
 ·rw [Maps.size_eq, (WideShapes.sorted_perm _).length_eq, List.length_map, Array.length_toList, hsz0]
 ·show List.Perm (List.map (fun p : Lit × DataW Unit => strOf p.1) _) _
  refine ((WideShapes.sorted_perm _).map _).trans ?_
  rw [List.map_map]
  have e3 : arr.toList.map ((fun p : Lit × DataW Unit => strOf p.1) ∘ WideElems.rg P kt anyR) = Z2p es0 := by
   have e4 : arr.toList.map ((fun p : Lit × DataW Unit => strOf p.1) ∘ WideElems.rg P kt anyR) = (arr.toList.map Z3o).map fun q => (match q.1 with | .string b => b.data.toList | _ => []) := by
    rw [List.map_map]
    refine List.map_congr_left fun x hx => ?_
    obtain ⟨p, hp, e⟩ := hkey x hx
    show strOf (WideElems.rg P kt anyR x).1 = match x.key with | .string b => b.data.toList | _ => []
    rw [(Zjd hk e (hsz p (h2.mem_iff.1 hp))).1, e]
    rfl
   rw [e4, h1, List.map_map]
   rfl
  rw [e3]
  exact h2.map _
theorem FPure.ofKeys {f fI : Nat} {mt : TypeId} {es : List (ByteArray × Value)} (h : ∀ (mb : Option Nat) (w : World), Calls P f #[.map mb] w fun e w' => e = .returned (.func (.func fI) #[] #[.pointer (some ⟨w.heap.size, 0, none⟩)]) ∧ w' = w.alloc (.cells #[.map mb] mt)) :
  FPure P f [.mp es] (.fn fI [.mq es]) := by
 intro σ F w vs hr hl hv
 obtain ⟨v0, rfl⟩ : ∃ v0, vs = [v0] := by
  match vs, hl with
  | [v0], _ => exact ⟨v0, rfl⟩
 have h0 : RepF F w (.mp es) v0 := by
  cases hv 0 _ v0 rfl rfl with
  | f _ _ h => exact h
 have hno : ∀ id g, ¬ hasB σ id g := fun id g h => by
  obtain ⟨k, h, _⟩ := h
  rw [hr.out id (Nat.zero_le _)] at h; cases h
 obtain ⟨mb, rfl⟩ : ∃ mb, v0 = .map mb := by
  cases h0 with
  | mp0 => exact ⟨none, rfl⟩
  | mp _ g => exact ⟨some g, rfl⟩
 refine (h mb w).mono ?_
 rintro e w' ⟨rfl, rfl⟩
 have hblk : ∀ b, b < w.heap.size → (w.alloc (.cells #[.map mb] mt)).heap[b]? = w.heap[b]? := fun b hb => (MapKept.heap_alloc w _).2 b hb
 have hRF : RepF (fun b => F b ∨ b = w.heap.size) (w.alloc (.cells #[.map mb] mt)) (.mp es) (.map mb) := h0.mono (fun _ h => .inl h) (fun b hb => hblk b (hr.flt b hb))
 have hcell : (w.alloc (.cells #[.map mb] mt)).cell? ⟨w.heap.size, 0, none⟩ = some (.map mb) := by
  have e := (MapKept.heap_alloc w (.cells #[.map mb] mt)).1
  unfold World.cell?
  simp only [e]
  rfl
 refine ⟨_, [], σ, fun b => F b ∨ b = w.heap.size, _, ⟨rfl, rfl⟩, rfl, .f _ _ (.fn fI [.mq es] [.pointer (some ⟨w.heap.size, 0, none⟩)] rfl (fun j x u hx hu => ?_)), ⟨fun id o ho => by simp at ho, hr.out, hr.inj, fun id g h => absurd h (hno id g), fun b hb => ?_, hr.lay.mono (fun _ h => .inl h) (fun b hb => hblk b (hr.flt b hb))⟩,
  ⟨rfl, rfl, rfl, by simp, fun b hb _ => hblk b hb⟩, fun id g h => absurd h (hno id g), fun b h => ?_, fun id h => absurd h (Nat.not_lt_zero _), Nat.le_refl _⟩
 ·match j with
  | 0 => simp at hx hu; subst hx hu; exact .mq es _ _ (.inr rfl) hcell hRF
  | j + 1 => simp at hx
 ·rcases hb with hb | rfl
  ·have := hr.flt b hb; simp; omega
  ·simp
 ·rcases h with h | rfl
  ·exact .inl h
  ·exact .inr (.inr (Nat.le_refl _))
theorem FPure.ofSorted {f fI : Nat} {kt : TypeId} (hk : P.underlying kt = some .string) {es : List (ByteArray × Value)} (hsz : ∀ p ∈ es, p.1.size ≤ maxLen) (hlen : es.length ≤ 1000000000)
  (h1 : ∀ (b nn : Nat) (D0 : DataW Unit) (g : Nat) (w : World), g < w.heap.size → w.cell? ⟨g, 0, none⟩ = some (.map (some b)) → w.ownsMap P kt anyR b nn D0 → Maps.size D0 ≤ maxLen → Maps.size D0 * 16 ≤ 140737488355328 →
   Calls P f #[.func (.func fI) #[] #[.pointer (some ⟨g, 0, none⟩)]] w fun e w' => ∃ (v : Value) (ss : List (List UInt8)), e = .returned v ∧ ss.Perm (strKeys D0) ∧ w'.ownsRow w.heap.size kt 1 v ss.length ((ss.mergeSort (fun x y => decide (x ≤ y))).map encStr) ∧ (v = .slice none 0 0 ↔ ss = []) ∧ Below w.heap.size w w')
  (h0 : ∀ (g : Nat) (w : World), g < w.heap.size → w.cell? ⟨g, 0, none⟩ = some (.map none) →
   Calls P f #[.func (.func fI) #[] #[.pointer (some ⟨g, 0, none⟩)]] w fun e w' => ∃ (v : Value) (ss : List (List UInt8)), e = .returned v ∧ ss = [] ∧ w'.ownsRow w.heap.size kt 1 v ss.length ((ss.mergeSort (fun x y => decide (x ≤ y))).map encStr) ∧ (v = .slice none 0 0 ↔ ss = []) ∧ Below w.heap.size w w') :
  FPure P f [.fn fI [.mq es]] (.ro 1 ((es.map (·.1)).map fun b => [.v (.string b)])) := by
 intro σ F w vs hr hl hv
 have hno : ∀ id g, ¬ hasB σ id g := fun id g h => by
  obtain ⟨k, h, _⟩ := h
  rw [hr.out id (Nat.zero_le _)] at h; cases h
 obtain ⟨v0, rfl⟩ : ∃ v0, vs = [v0] := by
  match vs, hl with
  | [v0], _ => exact ⟨v0, rfl⟩
 obtain ⟨us, rfl, hul, hus⟩ := RepV.fnv (hv 0 _ v0 rfl rfl)
 obtain ⟨u, rfl⟩ : ∃ u, us = [u] := by
  match us, hul with
  | [u], _ => exact ⟨u, rfl⟩
 have hu : RepF F w (.mq es) u := by
  cases hus 0 _ u rfl rfl with
  | f _ _ h => exact h
 have hmax : (1000000000 : Nat) ≤ maxLen := by decide
 cases hu with
 | mq _ g v hF hc hmp =>
  have hgl := hr.flt g hF
  have fin : Calls P f #[.func (.func fI) #[] #[.pointer (some ⟨g, 0, none⟩)]] w (fun e w' => ∃ (v : Value) (ss : List (List UInt8)), e = .returned v ∧ ss.Perm (Z2p es) ∧ w'.ownsRow w.heap.size kt 1 v ss.length ((ss.mergeSort (fun x y => decide (x ≤ y))).map encStr) ∧ Below w.heap.size w w') → MUp es →
    Calls P f [Value.func (.func fI) #[] [Value.pointer (some ⟨g, 0, none⟩)].toArray].toArray w fun e w' => ∃ ret h' σ' F' rv, (ret = AV.ro 1 ((es.map (·.1)).map fun b => [.v (.string b)]) ∧ h' = []) ∧ e = .returned rv ∧ RepV σ' F' w' ret rv ∧ HRep σ' F' w' h' ∧ Keep (ownB σ) w w' ∧
     (∀ id g, hasB σ' id g → ownB σ g ∨ w.heap.size ≤ g) ∧ (∀ b, F' b → F b ∨ ownB σ b ∨ w.heap.size ≤ b) ∧ (∀ id, id < ([] : List AObj).length → σ' id = σ id ∨ σ' id = none) ∧ ([] : List AObj).length ≤ h'.length := by
   intro hcall hup
   refine Calls.mono hcall ?_
   rintro e w' ⟨rv, ss, rfl, hp, hrow, hb⟩
   rw [Zf5 hup hp] at hrow
   have hn : ss.length = es.length := by rw [hp.length_eq]; simp [Z2p]
   have hkeep : Keep (ownB σ) w w' := ⟨hb.os, hb.tape, hb.output, hb.size, fun b hb' _ => hb.block b hb'⟩
   have hblk : ∀ b, F b → w'.heap[b]? = w.heap[b]? := fun b hb' => hb.block b (hr.flt b hb')
   have done : ∀ F' : Nat → Prop, (∀ b, F b → F' b) → (∀ b, F' b → F b ∨ (w.heap.size ≤ b ∧ b < w'.heap.size)) → RepF F' w' (.ro 1 ((es.map (·.1)).map fun b => [.v (.string b)])) rv → ∃ ret h' σ' F' rv', (ret = AV.ro 1 ((es.map (·.1)).map fun b => [.v (.string b)]) ∧ h' = []) ∧ Ending.returned rv = .returned rv' ∧ RepV σ' F' w' ret rv' ∧ HRep σ' F' w' h' ∧ Keep (ownB σ) w w' ∧
     (∀ id g, hasB σ' id g → ownB σ g ∨ w.heap.size ≤ g) ∧ (∀ b, F' b → F b ∨ ownB σ b ∨ w.heap.size ≤ b) ∧ (∀ id, id < ([] : List AObj).length → σ' id = σ id ∨ σ' id = none) ∧ ([] : List AObj).length ≤ h'.length :=
    fun F' k1 k2 k3 => ⟨_, [], σ, F', rv, ⟨rfl, rfl⟩, rfl, .f _ _ k3, ⟨fun id o ho => by simp at ho, hr.out, hr.inj, fun id g h => absurd h (hno id g), fun b hb' => by
     rcases k2 b hb' with h | h
     ·exact Nat.lt_of_lt_of_le (hr.flt b h) hb.size
     ·exact h.2, hr.lay.mono k1 hblk⟩, hkeep, fun id g h => absurd h (hno id g), fun b h => by
     rcases k2 b h with h | h
     ·exact .inl h
     ·exact .inr (.inr h.1), fun id h => absurd h (Nat.not_lt_zero _), Nat.le_refl _⟩
   obtain ⟨hxs, hrow⟩ := hrow
   rcases hrow with ⟨rfl, hz⟩ | ⟨g', cap, cur, rfl, hbase, hg', r1, r2, r3, r4⟩
   ·have hes : es = [] := List.eq_nil_of_length_eq_zero (hn.symm.trans hz)
    subst hes
    exact done F (fun _ h => h) (fun _ h => .inl h) (.nil0 1 0 none)
   ·have hg'l : g' < w'.heap.size := (Array.getElem?_eq_some_iff.1 hg').1
    refine done (fun b => F b ∨ b = g') (fun _ h => .inl h) (fun b h => h.imp id (fun e => by subst e; exact ⟨hbase, hg'l⟩)) ?_
    have hlen' : ((es.map (·.1)).map fun b => [AV.v (.string b)]).length = ss.length := by simp [hn]
    refine .ro 1 ss.length cap _ ⟨g', 0, none⟩ (fun i _ => .string (((es.map (·.1))[i]?).getD ByteArray.empty)) hlen' r1 (.inr rfl) (fun cs hcs => ?_) (fun i cs j x hi hj => ?_) (fun i cs j x hi hj => ?_)
    ·obtain ⟨b, _, rfl⟩ := List.mem_map.1 hcs; rfl
    ·rw [List.getElem?_map, Option.map_eq_some_iff] at hi
     obtain ⟨b, hb', rfl⟩ := hi
     have hj0 : j = 0 := by
      cases j with
      | zero => rfl
      | succ j => simp at hj
     subst hj0
     refine ⟨?_, rfl⟩
     rw [hb', Option.getD_some]
     have hil : i < es.length := by
      have := (List.getElem?_eq_some_iff.1 hb').1
      simpa using this
     have e1 : cur[i]? = some (Value.string b) := by
      rw [← Array.getElem?_toList]
      have e2 : (cur.toList.take (ss.length * 1))[i]? = some (Value.string b) := by
       rw [r4, List.getElem?_map]
       have e3 : (Z2p es)[i]? = some b.data.toList := by
        unfold Z2p
        have e4 : es.map (fun p => p.1.data.toList) = (es.map (·.1)).map fun b => b.data.toList := by rw [List.map_map]; rfl
        rw [e4, List.getElem?_map, hb']
        rfl
       rw [e3]
       show some (encStr b.data.toList) = _
       cases b; simp [encStr]
      rw [List.getElem?_take] at e2
      split at e2
      ·exact e2
      ·cases e2
     show w'.cell? (Addr.add ⟨g', 0, none⟩ (i * 1 + 0)) = _
     rw [Zl]
     unfold World.cell?
     simp only [hg']
     simpa using e1
    ·rw [List.getElem?_map, Option.map_eq_some_iff] at hi
     obtain ⟨b, hb', rfl⟩ := hi
     have hj0 : j = 0 := by
      cases j with
      | zero => rfl
      | succ j => simp at hj
     subst hj0
     simp at hj
     subst hj
     rw [hb', Option.getD_some]
     exact .v _
  cases hmp with
  | mp0 =>
   refine fin ((h0 g w hgl hc).mono ?_) List.Pairwise.nil
   rintro e w' ⟨v, ss, h2, rfl, h3, _, h4⟩
   exact ⟨v, [], h2, .refl _, h3, h4⟩
  | mp _ m arr clock hFm hm hi =>
   obtain ⟨D0, d1, d2, d3⟩ := Zia hk hm hi hsz (Nat.le_trans hlen hmax)
   refine fin ((h1 m arr.size D0 g w hgl hc d1 (by rw [d2]; exact Nat.le_trans hlen hmax) (by rw [d2]; omega)).mono ?_) hi.2.1
   rintro e w' ⟨v, ss, h2, h3, h4, _, h5⟩
   exact ⟨v, ss, h2, h3.trans d3, h4, h5⟩
end
end Go.Proofs.YtahlodpolggeiaaGreatDoor.Eng
set_option linter.unusedVariables false
set_option maxRecDepth 100000
namespace Go.Proofs.YtahlodpolggeiaaGreatDoor
open Go Go.RowKit Go.Proofs.YtahlodpolggeiaaGreatDoor.Eng
def ti3 : TI := ⟨.int .i64, 1, 8, (.int .i64 0)⟩
def ti4 : TI := ⟨.bool, 1, 1, (.bool false)⟩
def ti5 : TI := ⟨.int .u8, 1, 1, (.int .u8 0)⟩
def ti9 : TI := ⟨.str, 1, 16, (.string ⟨#[]⟩)⟩
def ti21 : TI := ⟨.int .i32, 1, 4, (.int .i32 0)⟩
def ti22 : TI := ⟨.slice 34, 1, 24, (.slice none 0 0)⟩
def ti24 : TI := ⟨.slice 9, 1, 24, (.slice none 0 0)⟩
def ti25 : TI := ⟨.int .i64, 1, 8, (.int .i64 0)⟩
def ti32 : TI := ⟨.slice 91, 1, 24, (.slice none 0 0)⟩
def ti33 : TI := ⟨.struct [(0, 9), (1, 9), (2, 9), (3, 9), (4, 3), (5, 24), (6, 9)], 7, 112, (.agg #[(.string ⟨#[]⟩), (.string ⟨#[]⟩), (.string ⟨#[]⟩), (.string ⟨#[]⟩), (.int .i64 0), (.slice none 0 0), (.string ⟨#[]⟩)])⟩
def ti34 : TI := ⟨.struct [(0, 9), (1, 9), (2, 9), (3, 9), (4, 3), (5, 24), (6, 9)], 7, 112, (.agg #[(.string ⟨#[]⟩), (.string ⟨#[]⟩), (.string ⟨#[]⟩), (.string ⟨#[]⟩), (.int .i64 0), (.slice none 0 0), (.string ⟨#[]⟩)])⟩
def ti56 : TI := ⟨.slice 59, 1, 24, (.slice none 0 0)⟩
def ti58 : TI := ⟨.struct [(0, 3), (1, 9), (2, 3)], 3, 32, (.agg #[(.int .i64 0), (.string ⟨#[]⟩), (.int .i64 0)])⟩
def ti59 : TI := ⟨.struct [(0, 3), (1, 9), (2, 3)], 3, 32, (.agg #[(.int .i64 0), (.string ⟨#[]⟩), (.int .i64 0)])⟩
def ti60 : TI := ⟨.slice 3, 1, 24, (.slice none 0 0)⟩
def ti73 : TI := ⟨.slice 78, 1, 24, (.slice none 0 0)⟩
def ti77 : TI := ⟨.struct [(0, 9), (1, 3), (2, 3)], 3, 32, (.agg #[(.string ⟨#[]⟩), (.int .i64 0), (.int .i64 0)])⟩
def ti78 : TI := ⟨.struct [(0, 9), (1, 3), (2, 3)], 3, 32, (.agg #[(.string ⟨#[]⟩), (.int .i64 0), (.int .i64 0)])⟩
def ti82 : TI := ⟨.other, 1, 8, .nilFunc⟩
def ti90 : TI := ⟨.struct [(0, 9), (1, 9), (2, 24), (3, 3), (4, 3)], 5, 72, (.agg #[(.string ⟨#[]⟩), (.string ⟨#[]⟩), (.slice none 0 0), (.int .i64 0), (.int .i64 0)])⟩
def ti91 : TI := ⟨.struct [(0, 9), (1, 9), (2, 24), (3, 3), (4, 3)], 5, 72, (.agg #[(.string ⟨#[]⟩), (.string ⟨#[]⟩), (.slice none 0 0), (.int .i64 0), (.int .i64 0)])⟩
def ti103 : TI := ⟨.map 9 4, 1, 8, (.map none)⟩
def ti104 : TI := ⟨.slice 4, 1, 24, (.slice none 0 0)⟩
def ti111 : TI := ⟨.struct [(0, 104), (1, 104), (2, 103)], 3, 56, (.agg #[(.slice none 0 0), (.slice none 0 0), (.map none)])⟩
def ti112 : TI := ⟨.struct [(0, 104), (1, 104), (2, 103)], 3, 56, (.agg #[(.slice none 0 0), (.slice none 0 0), (.map none)])⟩
def ti116 : TI := ⟨.other, 1, 8, .nilFunc⟩
def ti117 : TI := ⟨.other, 1, 8, .nilFunc⟩
def ti121 : TI := ⟨.int .u64, 1, 8, (.int .u64 0)⟩
def ti122 : TI := ⟨.struct [(0, 104), (1, 104), (2, 104), (3, 24)], 4, 96, (.agg #[(.slice none 0 0), (.slice none 0 0), (.slice none 0 0), (.slice none 0 0)])⟩
def ti123 : TI := ⟨.struct [(0, 104), (1, 104), (2, 104), (3, 24)], 4, 96, (.agg #[(.slice none 0 0), (.slice none 0 0), (.slice none 0 0), (.slice none 0 0)])⟩
def ti125 : TI := ⟨.map 9 78, 1, 8, (.map none)⟩
def ti132 : TI := ⟨.slice 5, 1, 24, (.slice none 0 0)⟩
def ti151 : TI := ⟨.other, 1, 8, .nilFunc⟩
def ti153 : TI := ⟨.struct [(0, 9), (1, 9)], 2, 32, (.agg #[(.string ⟨#[]⟩), (.string ⟨#[]⟩)])⟩
def ti154 : TI := ⟨.struct [(0, 9), (1, 9)], 2, 32, (.agg #[(.string ⟨#[]⟩), (.string ⟨#[]⟩)])⟩
def ti162 : TI := ⟨.map 9 3, 1, 8, (.map none)⟩
def ti165 : TI := ⟨.int .u64, 1, 8, (.int .u64 0)⟩
def ti198 : TI := ⟨.other, 1, 8, .nilFunc⟩
def tl : List (Nat × TI) := [(3, ti3), (4, ti4), (5, ti5), (9, ti9), (21, ti21), (22, ti22), (24, ti24), (25, ti25), (32, ti32), (33, ti33), (34, ti34), (56, ti56), (58, ti58), (59, ti59), (60, ti60), (73, ti73), (77, ti77), (78, ti78), (82, ti82), (90, ti90), (91, ti91), (103, ti103), (104, ti104), (111, ti111), (112, ti112), (116, ti116), (117, ti117), (121, ti121), (122, ti122), (123, ti123), (125, ti125), (132, ti132), (151, ti151), (153, ti153), (154, ti154), (162, ti162), (165, ti165), (198, ti198)]
def T : Tab := tabGet tl
theorem tiok3 : TIOk Tryz.prog 3 ti3 := ⟨Tryz.underlying3, by kernel_rfl, rfl, rfl⟩
theorem tiok4 : TIOk Tryz.prog 4 ti4 := ⟨Tryz.underlying4, by kernel_rfl, rfl, rfl⟩
theorem tiok5 : TIOk Tryz.prog 5 ti5 := ⟨Tryz.underlying5, by kernel_rfl, rfl, rfl⟩
theorem tiok9 : TIOk Tryz.prog 9 ti9 := ⟨Tryz.underlying9, by kernel_rfl, rfl, rfl⟩
theorem tiok21 : TIOk Tryz.prog 21 ti21 := ⟨Tryz.underlying21, by kernel_rfl, rfl, rfl⟩
theorem tiok22 : TIOk Tryz.prog 22 ti22 := ⟨Tryz.underlying22, by kernel_rfl, rfl, rfl⟩
theorem tiok24 : TIOk Tryz.prog 24 ti24 := ⟨Tryz.underlying24, by kernel_rfl, rfl, rfl⟩
theorem tiok25 : TIOk Tryz.prog 25 ti25 := ⟨Tryz.underlying25, by kernel_rfl, rfl, rfl⟩
theorem tiok32 : TIOk Tryz.prog 32 ti32 := ⟨Tryz.underlying32, by kernel_rfl, rfl, rfl⟩
theorem tiok33 : TIOk Tryz.prog 33 ti33 := ⟨⟨_, Tryz.underlying33, rfl⟩, by kernel_rfl, rfl, rfl⟩
theorem tiok34 : TIOk Tryz.prog 34 ti34 := ⟨⟨_, Tryz.underlying34, rfl⟩, by kernel_rfl, rfl, rfl⟩
theorem tiok56 : TIOk Tryz.prog 56 ti56 := ⟨Tryz.underlying56, by kernel_rfl, rfl, rfl⟩
theorem tiok58 : TIOk Tryz.prog 58 ti58 := ⟨⟨_, Tryz.underlying58, rfl⟩, by kernel_rfl, rfl, rfl⟩
theorem tiok59 : TIOk Tryz.prog 59 ti59 := ⟨⟨_, Tryz.underlying59, rfl⟩, by kernel_rfl, rfl, rfl⟩
theorem tiok60 : TIOk Tryz.prog 60 ti60 := ⟨Tryz.underlying60, by kernel_rfl, rfl, rfl⟩
theorem tiok73 : TIOk Tryz.prog 73 ti73 := ⟨Tryz.underlying73, by kernel_rfl, rfl, rfl⟩
theorem tiok77 : TIOk Tryz.prog 77 ti77 := ⟨⟨_, Tryz.underlying77, rfl⟩, by kernel_rfl, rfl, rfl⟩
theorem tiok78 : TIOk Tryz.prog 78 ti78 := ⟨⟨_, Tryz.underlying78, rfl⟩, by kernel_rfl, rfl, rfl⟩
theorem tiok82 : TIOk Tryz.prog 82 ti82 := ⟨⟨_, Tryz.underlying82, trivial⟩, by kernel_rfl, rfl, rfl⟩
theorem tiok90 : TIOk Tryz.prog 90 ti90 := ⟨⟨_, Tryz.underlying90, rfl⟩, by kernel_rfl, rfl, rfl⟩
theorem tiok91 : TIOk Tryz.prog 91 ti91 := ⟨⟨_, Tryz.underlying91, rfl⟩, by kernel_rfl, rfl, rfl⟩
theorem tiok103 : TIOk Tryz.prog 103 ti103 := ⟨Tryz.underlying103, by kernel_rfl, rfl, rfl⟩
theorem tiok104 : TIOk Tryz.prog 104 ti104 := ⟨Tryz.underlying104, by kernel_rfl, rfl, rfl⟩
theorem tiok111 : TIOk Tryz.prog 111 ti111 := ⟨⟨_, Tryz.underlying111, rfl⟩, by kernel_rfl, rfl, rfl⟩
theorem tiok112 : TIOk Tryz.prog 112 ti112 := ⟨⟨_, Tryz.underlying112, rfl⟩, by kernel_rfl, rfl, rfl⟩
theorem tiok116 : TIOk Tryz.prog 116 ti116 := ⟨⟨_, Tryz.underlying116, trivial⟩, by kernel_rfl, rfl, rfl⟩
theorem tiok117 : TIOk Tryz.prog 117 ti117 := ⟨⟨_, Tryz.underlying117, trivial⟩, by kernel_rfl, rfl, rfl⟩
theorem tiok121 : TIOk Tryz.prog 121 ti121 := ⟨Tryz.underlying121, by kernel_rfl, rfl, rfl⟩
theorem tiok122 : TIOk Tryz.prog 122 ti122 := ⟨⟨_, Tryz.underlying122, rfl⟩, by kernel_rfl, rfl, rfl⟩
theorem tiok123 : TIOk Tryz.prog 123 ti123 := ⟨⟨_, Tryz.underlying123, rfl⟩, by kernel_rfl, rfl, rfl⟩
theorem tiok125 : TIOk Tryz.prog 125 ti125 := ⟨Tryz.underlying125, by kernel_rfl, rfl, rfl⟩
theorem tiok132 : TIOk Tryz.prog 132 ti132 := ⟨Tryz.underlying132, by kernel_rfl, rfl, rfl⟩
theorem tiok151 : TIOk Tryz.prog 151 ti151 := ⟨⟨_, Tryz.underlying151, trivial⟩, by kernel_rfl, rfl, rfl⟩
theorem tiok153 : TIOk Tryz.prog 153 ti153 := ⟨⟨_, Tryz.underlying153, rfl⟩, by kernel_rfl, rfl, rfl⟩
theorem tiok154 : TIOk Tryz.prog 154 ti154 := ⟨⟨_, Tryz.underlying154, rfl⟩, by kernel_rfl, rfl, rfl⟩
theorem tiok162 : TIOk Tryz.prog 162 ti162 := ⟨Tryz.underlying162, by kernel_rfl, rfl, rfl⟩
theorem tiok165 : TIOk Tryz.prog 165 ti165 := ⟨Tryz.underlying165, by kernel_rfl, rfl, rfl⟩
theorem tiok198 : TIOk Tryz.prog 198 ti198 := ⟨⟨_, Tryz.underlying198, trivial⟩, by kernel_rfl, rfl, rfl⟩
theorem tabOK : Zg Tryz.prog T := by
 refine Zhu ?_
 simp only [tl, List.forall_mem_cons]
 exact ⟨tiok3, tiok4, tiok5, tiok9, tiok21, tiok22, tiok24, tiok25, tiok32, tiok33, tiok34, tiok56, tiok58, tiok59, tiok60, tiok73, tiok77, tiok78, tiok82, tiok90, tiok91, tiok103, tiok104, tiok111, tiok112, tiok116, tiok117, tiok121, tiok122, tiok123, tiok125, tiok132, tiok151, tiok153, tiok154, tiok162, tiok165, tiok198, fun _ h => by cases h⟩
def TYt : Nat → Option Ty := lkT [(3, (.int .i64)), (4, .bool), (5, .byte), (9, .str), (21, (.int .i32)), (22, (.slice (.pair .str (.pair .str (.pair .str (.pair .str (.pair (.int .i64) (.pair (.slice .str) .str)))))))), (24, (.slice .str)), (25, (.int .i64)), (32, (.slice (.pair .str (.pair .str (.pair (.slice .str) (.pair (.int .i64) (.int .i64))))))), (33, (.pair .str (.pair .str (.pair .str (.pair .str (.pair (.int .i64) (.pair (.slice .str) .str))))))), (34, (.pair .str (.pair .str (.pair .str (.pair .str (.pair (.int .i64) (.pair (.slice .str) .str))))))), (56, (.slice (.pair (.int .i64) (.pair .str (.int .i64))))), (58, (.pair (.int .i64) (.pair .str (.int .i64)))), (59, (.pair (.int .i64) (.pair .str (.int .i64)))), (60, (.slice (.int .i64))), (73, (.slice (.pair .str (.pair (.int .i64) (.int .i64))))), (77, (.pair .str (.pair (.int .i64) (.int .i64)))), (78, (.pair .str (.pair (.int .i64) (.int .i64)))), (90, (.pair .str (.pair .str (.pair (.slice .str) (.pair (.int .i64) (.int .i64)))))), (91, (.pair .str (.pair .str (.pair (.slice .str) (.pair (.int .i64) (.int .i64)))))), (103, (.mp .bool)), (104, (.slice .bool)), (111, (.pair (.slice .bool) (.pair (.slice .bool) (.mp .bool)))), (112, (.pair (.slice .bool) (.pair (.slice .bool) (.mp .bool)))), (121, (.int .u64)), (122, (.pair (.slice .bool) (.pair (.slice .bool) (.pair (.slice .bool) (.slice .str))))), (123, (.pair (.slice .bool) (.pair (.slice .bool) (.pair (.slice .bool) (.slice .str))))), (125, (.mp (.pair .str (.pair (.int .i64) (.int .i64))))), (132, (.slice .byte)), (153, (.pair .str .str)), (154, (.pair .str .str)), (162, (.mp (.int .i64))), (165, (.int .u64))]
theorem mixed : Tryz.prog.follows .mixedOrders = true := by kernel_rfl
def Z5 (f : Func) : Code := match f.body with | some c => c | none => .skip
end Go.Proofs.YtahlodpolggeiaaGreatDoor
set_option linter.unusedVariables false
set_option maxRecDepth 100000
namespace Go.Proofs
open Go.Shelf
def Tryz.lays106_ren : Go.Shelf.Ren := ⟨fun | 106 => 124 | 213 => 177 | 265 => 209 | n => n, fun | 9 => 9 | 3 => 3 | n => n, fun | n => n⟩
theorem Tryz.lays106 : Go.Proofs.Lays.n106 Tryz.prog Tryz.lays106_ren := {
 mixed := by kernel_rfl
 f106 := Tryz.func124.trans (congrArg some (by kernel_rfl))
 f213 := Tryz.func177.trans (congrArg some (by kernel_rfl))
 f265 := Tryz.func209.trans (congrArg some (by kernel_rfl))
 t3 := Tryz.underlying3
 a3 := Tryz.isAgg3
 z3 := Tryz.sizeOf3
 v3 := Tryz.zeroValue3
 t9 := Tryz.underlying9
 a9 := Tryz.isAgg9
 z9 := Tryz.sizeOf9
 v9 := Tryz.zeroValue9 }
def Tryz.lays217_ren : Go.Shelf.Ren := ⟨fun | 217 => 226 | 266 => 248 | n => n, fun | 9 => 9 | 5 => 5 | 3 => 3 | n => n, fun | n => n⟩
theorem Tryz.lays217 : Go.Proofs.Lays.n217 Tryz.prog Tryz.lays217_ren := {
 mixed := by kernel_rfl
 f217 := Tryz.func226.trans (congrArg some (by kernel_rfl))
 f266 := Tryz.func248.trans (congrArg some (by kernel_rfl))
 t3 := Tryz.underlying3
 a3 := Tryz.isAgg3
 z3 := Tryz.sizeOf3
 v3 := Tryz.zeroValue3
 t5 := Tryz.underlying5
 a5 := Tryz.isAgg5
 z5 := Tryz.sizeOf5
 v5 := Tryz.zeroValue5
 t9 := Tryz.underlying9
 a9 := Tryz.isAgg9
 z9 := Tryz.sizeOf9
 v9 := Tryz.zeroValue9 }
def Tryz.lays219_ren : Go.Shelf.Ren := ⟨fun | 219 => 198 | 217 => 226 | 225 => 227 | 224 => 228 | 267 => 229 | 266 => 248 | 314 => 249 | n => n, fun | 9 => 9 | 3 => 3 | 4 => 4 | 5 => 5 | 46 => 121 | 146 => 219 | 51 => 176 | n => n, fun | 1 => 0 | n => n⟩
theorem Tryz.lays219 : Go.Proofs.Lays.n219 Tryz.prog Tryz.lays219_ren := {
 mixed := by kernel_rfl
 f217 := Tryz.func226.trans (congrArg some (by kernel_rfl))
 f219 := Tryz.func198.trans (congrArg some (by kernel_rfl))
 f224 := Tryz.func228.trans (congrArg some (by kernel_rfl))
 f225 := Tryz.func227.trans (congrArg some (by kernel_rfl))
 f266 := Tryz.func248.trans (congrArg some (by kernel_rfl))
 f267 := Tryz.func229.trans (congrArg some (by kernel_rfl))
 f314 := Tryz.func249.trans (congrArg some (by kernel_rfl))
 t3 := Tryz.underlying3
 a3 := Tryz.isAgg3
 z3 := Tryz.sizeOf3
 v3 := Tryz.zeroValue3
 t4 := Tryz.underlying4
 a4 := Tryz.isAgg4
 z4 := Tryz.sizeOf4
 v4 := Tryz.zeroValue4
 t5 := Tryz.underlying5
 a5 := Tryz.isAgg5
 z5 := Tryz.sizeOf5
 v5 := Tryz.zeroValue5
 t9 := Tryz.underlying9
 a9 := Tryz.isAgg9
 z9 := Tryz.sizeOf9
 v9 := Tryz.zeroValue9
 t46 := Tryz.underlying121
 a46 := Tryz.isAgg121
 z46 := Tryz.sizeOf121
 v46 := Tryz.zeroValue121
 t51 := Tryz.underlying176
 a51 := Tryz.isAgg176
 z51 := Tryz.sizeOf176
 v51 := Tryz.zeroValue176
 t146 := Tryz.underlying219
 a146 := Tryz.isAgg219
 z146 := Tryz.sizeOf219
 v146 := Tryz.zeroValue219
 g1 := by kernel_rfl }
def Tryz.lays138_ren : Go.Shelf.Ren := ⟨fun | 138 => 231 | 195 => 250 | 218 => 251 | 143 => 232 | 219 => 198 | 217 => 226 | 225 => 227 | 224 => 228 | 267 => 229 | 266 => 248 | 314 => 249 | n => n, fun | 9 => 9 | 3 => 3 | 4 => 4 | 5 => 5 | 0 => 0 | 46 => 121 | 146 => 219 | 51 => 176 | n => n, fun | 1 => 0 | n => n⟩
theorem Tryz.lays138 : Go.Proofs.Lays.n138 Tryz.prog Tryz.lays138_ren := {
 mixed := by kernel_rfl
 f138 := Tryz.func231.trans (congrArg some (by kernel_rfl))
 f143 := Tryz.func232.trans (congrArg some (by kernel_rfl))
 f195 := Tryz.func250.trans (congrArg some (by kernel_rfl))
 f217 := Tryz.func226.trans (congrArg some (by kernel_rfl))
 f218 := Tryz.func251.trans (congrArg some (by kernel_rfl))
 f219 := Tryz.func198.trans (congrArg some (by kernel_rfl))
 f224 := Tryz.func228.trans (congrArg some (by kernel_rfl))
 f225 := Tryz.func227.trans (congrArg some (by kernel_rfl))
 f266 := Tryz.func248.trans (congrArg some (by kernel_rfl))
 f267 := Tryz.func229.trans (congrArg some (by kernel_rfl))
 f314 := Tryz.func249.trans (congrArg some (by kernel_rfl))
 t0 := Tryz.underlying0
 a0 := Tryz.isAgg0
 z0 := Tryz.sizeOf0
 v0 := Tryz.zeroValue0
 t3 := Tryz.underlying3
 a3 := Tryz.isAgg3
 z3 := Tryz.sizeOf3
 v3 := Tryz.zeroValue3
 t4 := Tryz.underlying4
 a4 := Tryz.isAgg4
 z4 := Tryz.sizeOf4
 v4 := Tryz.zeroValue4
 t5 := Tryz.underlying5
 a5 := Tryz.isAgg5
 z5 := Tryz.sizeOf5
 v5 := Tryz.zeroValue5
 t9 := Tryz.underlying9
 a9 := Tryz.isAgg9
 z9 := Tryz.sizeOf9
 v9 := Tryz.zeroValue9
 t46 := Tryz.underlying121
 a46 := Tryz.isAgg121
 z46 := Tryz.sizeOf121
 v46 := Tryz.zeroValue121
 t51 := Tryz.underlying176
 a51 := Tryz.isAgg176
 z51 := Tryz.sizeOf176
 v51 := Tryz.zeroValue176
 t146 := Tryz.underlying219
 a146 := Tryz.isAgg219
 z146 := Tryz.sizeOf219
 v146 := Tryz.zeroValue219
 g1 := by kernel_rfl }
def Tryz.lays160_ren : Go.Shelf.Ren := ⟨fun | 160 => 121 | 232 => 171 | 231 => 170 | 227 => 172 | 234 => 174 | 233 => 173 | 236 => 176 | 235 => 175 | 228 => 205 | 271 => 208 | 151 => 207 | 197 => 206 | 120 => 241 | 152 => 240 | 260 => 239 | 137 => 256 | 119 => 257 | 224 => 228 | 225 => 227 | 217 => 226 | 266 => 248 | n => n, fun | 9 => 9 | 4 => 4 | 3 => 3 | 5 => 5 | 117 => 189 | 116 => 188 | 0 => 0 | 124 => 192 | 21 => 21 | 105 => 214 | 46 => 121 | 119 => 249 | 139 => 252 | 138 => 251 | n => n, fun | 3 => 4 | 4 => 5 | n => n⟩
theorem Tryz.lays160 : Go.Proofs.Lays.n160 Tryz.prog Tryz.lays160_ren := {
 mixed := by kernel_rfl
 f119 := Tryz.func257.trans (congrArg some (by kernel_rfl))
 f120 := Tryz.func241.trans (congrArg some (by kernel_rfl))
 f137 := Tryz.func256.trans (congrArg some (by kernel_rfl))
 f151 := Tryz.func207.trans (congrArg some (by kernel_rfl))
 f152 := Tryz.func240.trans (congrArg some (by kernel_rfl))
 f160 := Tryz.func121.trans (congrArg some (by kernel_rfl))
 f197 := Tryz.func206.trans (congrArg some (by kernel_rfl))
 f217 := Tryz.func226.trans (congrArg some (by kernel_rfl))
 f224 := Tryz.func228.trans (congrArg some (by kernel_rfl))
 f225 := Tryz.func227.trans (congrArg some (by kernel_rfl))
 f227 := Tryz.func172.trans (congrArg some (by kernel_rfl))
 f228 := Tryz.func205.trans (congrArg some (by kernel_rfl))
 f231 := Tryz.func170.trans (congrArg some (by kernel_rfl))
 f232 := Tryz.func171.trans (congrArg some (by kernel_rfl))
 f233 := Tryz.func173.trans (congrArg some (by kernel_rfl))
 f234 := Tryz.func174.trans (congrArg some (by kernel_rfl))
 f235 := Tryz.func175.trans (congrArg some (by kernel_rfl))
 f236 := Tryz.func176.trans (congrArg some (by kernel_rfl))
 f260 := Tryz.func239.trans (congrArg some (by kernel_rfl))
 f266 := Tryz.func248.trans (congrArg some (by kernel_rfl))
 f271 := Tryz.func208.trans (congrArg some (by kernel_rfl))
 t0 := Tryz.underlying0
 a0 := Tryz.isAgg0
 z0 := Tryz.sizeOf0
 v0 := Tryz.zeroValue0
 t3 := Tryz.underlying3
 a3 := Tryz.isAgg3
 z3 := Tryz.sizeOf3
 v3 := Tryz.zeroValue3
 t4 := Tryz.underlying4
 a4 := Tryz.isAgg4
 z4 := Tryz.sizeOf4
 v4 := Tryz.zeroValue4
 t5 := Tryz.underlying5
 a5 := Tryz.isAgg5
 z5 := Tryz.sizeOf5
 v5 := Tryz.zeroValue5
 t9 := Tryz.underlying9
 a9 := Tryz.isAgg9
 z9 := Tryz.sizeOf9
 v9 := Tryz.zeroValue9
 t21 := Tryz.underlying21
 a21 := Tryz.isAgg21
 z21 := Tryz.sizeOf21
 v21 := Tryz.zeroValue21
 t46 := Tryz.underlying121
 a46 := Tryz.isAgg121
 z46 := Tryz.sizeOf121
 v46 := Tryz.zeroValue121
 t105 := Tryz.underlying214
 a105 := Tryz.isAgg214
 z105 := Tryz.sizeOf214
 v105 := Tryz.zeroValue214
 t116 := Tryz.underlying188
 a116 := Tryz.isAgg188
 z116 := Tryz.sizeOf188
 t117 := Tryz.underlying189
 a117 := Tryz.isAgg189
 z117 := Tryz.sizeOf189
 v117 := Tryz.zeroValue189
 t119 := Tryz.underlying249
 a119 := Tryz.isAgg249
 z119 := Tryz.sizeOf249
 t124 := Tryz.underlying192
 a124 := Tryz.isAgg192
 z124 := Tryz.sizeOf192
 v124 := Tryz.zeroValue192
 t138 := Tryz.underlying251
 a138 := Tryz.isAgg251
 z138 := Tryz.sizeOf251
 v138 := Tryz.zeroValue251
 t139 := Tryz.underlying252
 a139 := Tryz.isAgg252
 z139 := Tryz.sizeOf252
 v139 := Tryz.zeroValue252
 g3 := by kernel_rfl
 g4 := by kernel_rfl }
def Tryz.lays156_ren : Go.Shelf.Ren := ⟨fun | 156 => 111 | 165 => 166 | 166 => 110 | 169 => 113 | 240 => 165 | 241 => 203 | 276 => 202 | 277 => 238 | n => n, fun | 31 => 24 | 9 => 9 | 3 => 3 | 4 => 4 | 0 => 0 | 20 => 20 | 72 => 134 | 76 => 138 | 70 => 131 | 37 => 132 | 75 => 137 | 127 => 181 | 164 => 211 | 5 => 5 | 80 => 142 | n => n, fun | n => n⟩
theorem Tryz.lays156 : Go.Proofs.Lays.n156 Tryz.prog Tryz.lays156_ren := {
 mixed := by kernel_rfl
 f156 := Tryz.func111.trans (congrArg some (by kernel_rfl))
 f165 := Tryz.func166.trans (congrArg some (by kernel_rfl))
 f166 := Tryz.func110.trans (congrArg some (by kernel_rfl))
 f169 := Tryz.func113.trans (congrArg some (by kernel_rfl))
 f240 := Tryz.func165.trans (congrArg some (by kernel_rfl))
 f241 := Tryz.func203.trans (congrArg some (by kernel_rfl))
 f276 := Tryz.func202.trans (congrArg some (by kernel_rfl))
 f277 := Tryz.func238.trans (congrArg some (by kernel_rfl))
 t0 := Tryz.underlying0
 a0 := Tryz.isAgg0
 z0 := Tryz.sizeOf0
 v0 := Tryz.zeroValue0
 t3 := Tryz.underlying3
 a3 := Tryz.isAgg3
 z3 := Tryz.sizeOf3
 v3 := Tryz.zeroValue3
 t4 := Tryz.underlying4
 a4 := Tryz.isAgg4
 z4 := Tryz.sizeOf4
 v4 := Tryz.zeroValue4
 t9 := Tryz.underlying9
 a9 := Tryz.isAgg9
 z9 := Tryz.sizeOf9
 v9 := Tryz.zeroValue9
 t20 := Tryz.underlying20
 a20 := Tryz.isAgg20
 z20 := Tryz.sizeOf20
 v20 := Tryz.zeroValue20
 t31 := Tryz.underlying24
 a31 := Tryz.isAgg24
 z31 := Tryz.sizeOf24
 v31 := Tryz.zeroValue24
 t37 := Tryz.underlying132
 a37 := Tryz.isAgg132
 z37 := Tryz.sizeOf132
 v37 := Tryz.zeroValue132
 t70 := Tryz.underlying131
 a70 := Tryz.isAgg131
 z70 := Tryz.sizeOf131
 v70 := Tryz.zeroValue131
 t72 := Tryz.underlying134
 a72 := Tryz.isAgg134
 z72 := Tryz.sizeOf134
 v72 := Tryz.zeroValue134
 t75 := Tryz.underlying137
 a75 := Tryz.isAgg137
 z75 := Tryz.sizeOf137
 v75 := Tryz.zeroValue137
 t76 := Tryz.underlying138
 a76 := Tryz.isAgg138
 z76 := Tryz.sizeOf138
 v76 := Tryz.zeroValue138
 t127 := Tryz.underlying181
 a127 := Tryz.isAgg181
 z127 := Tryz.sizeOf181
 v127 := Tryz.zeroValue181
 t164 := Tryz.underlying211
 a164 := Tryz.isAgg211
 z164 := Tryz.sizeOf211
 v164 := Tryz.zeroValue211 }
def Tryz.lays105_ren : Go.Shelf.Ren := ⟨fun | 105 => 138 | 212 => 188 | 99 => 130 | 165 => 166 | 166 => 110 | 170 => 112 | 169 => 113 | 263 => 217 | 264 => 218 | 206 => 183 | 240 => 165 | 241 => 203 | 276 => 202 | 277 => 238 | n => n, fun | 9 => 9 | 3 => 3 | 4 => 4 | 20 => 20 | 0 => 0 | 46 => 121 | 109 => 199 | 5 => 5 | 72 => 134 | 76 => 138 | 51 => 176 | 146 => 219 | 53 => 165 | 148 => 221 | 70 => 131 | 37 => 132 | 75 => 137 | 127 => 181 | 164 => 211 | 80 => 142 | n => n, fun | n => n⟩
theorem Tryz.lays105 : Go.Proofs.Lays.n105 Tryz.prog Tryz.lays105_ren := {
 mixed := by kernel_rfl
 f99 := Tryz.func130.trans (congrArg some (by kernel_rfl))
 f105 := Tryz.func138.trans (congrArg some (by kernel_rfl))
 f165 := Tryz.func166.trans (congrArg some (by kernel_rfl))
 f166 := Tryz.func110.trans (congrArg some (by kernel_rfl))
 f169 := Tryz.func113.trans (congrArg some (by kernel_rfl))
 f170 := Tryz.func112.trans (congrArg some (by kernel_rfl))
 f206 := Tryz.func183.trans (congrArg some (by kernel_rfl))
 f212 := Tryz.func188.trans (congrArg some (by kernel_rfl))
 f240 := Tryz.func165.trans (congrArg some (by kernel_rfl))
 f241 := Tryz.func203.trans (congrArg some (by kernel_rfl))
 f263 := Tryz.func217.trans (congrArg some (by kernel_rfl))
 f264 := Tryz.func218.trans (congrArg some (by kernel_rfl))
 f276 := Tryz.func202.trans (congrArg some (by kernel_rfl))
 f277 := Tryz.func238.trans (congrArg some (by kernel_rfl))
 t0 := Tryz.underlying0
 a0 := Tryz.isAgg0
 z0 := Tryz.sizeOf0
 v0 := Tryz.zeroValue0
 t3 := Tryz.underlying3
 a3 := Tryz.isAgg3
 z3 := Tryz.sizeOf3
 v3 := Tryz.zeroValue3
 t4 := Tryz.underlying4
 a4 := Tryz.isAgg4
 z4 := Tryz.sizeOf4
 v4 := Tryz.zeroValue4
 t5 := Tryz.underlying5
 a5 := Tryz.isAgg5
 z5 := Tryz.sizeOf5
 v5 := Tryz.zeroValue5
 t9 := Tryz.underlying9
 a9 := Tryz.isAgg9
 z9 := Tryz.sizeOf9
 v9 := Tryz.zeroValue9
 t20 := Tryz.underlying20
 a20 := Tryz.isAgg20
 z20 := Tryz.sizeOf20
 v20 := Tryz.zeroValue20
 t37 := Tryz.underlying132
 a37 := Tryz.isAgg132
 z37 := Tryz.sizeOf132
 v37 := Tryz.zeroValue132
 t46 := Tryz.underlying121
 a46 := Tryz.isAgg121
 z46 := Tryz.sizeOf121
 v46 := Tryz.zeroValue121
 t51 := Tryz.underlying176
 a51 := Tryz.isAgg176
 z51 := Tryz.sizeOf176
 v51 := Tryz.zeroValue176
 t53 := Tryz.underlying165
 a53 := Tryz.isAgg165
 z53 := Tryz.sizeOf165
 v53 := Tryz.zeroValue165
 t70 := Tryz.underlying131
 a70 := Tryz.isAgg131
 z70 := Tryz.sizeOf131
 v70 := Tryz.zeroValue131
 t72 := Tryz.underlying134
 a72 := Tryz.isAgg134
 z72 := Tryz.sizeOf134
 v72 := Tryz.zeroValue134
 t75 := Tryz.underlying137
 a75 := Tryz.isAgg137
 z75 := Tryz.sizeOf137
 v75 := Tryz.zeroValue137
 t76 := Tryz.underlying138
 a76 := Tryz.isAgg138
 z76 := Tryz.sizeOf138
 v76 := Tryz.zeroValue138
 t109 := Tryz.underlying199
 a109 := Tryz.isAgg199
 z109 := Tryz.sizeOf199
 v109 := Tryz.zeroValue199
 t127 := Tryz.underlying181
 a127 := Tryz.isAgg181
 z127 := Tryz.sizeOf181
 v127 := Tryz.zeroValue181
 t146 := Tryz.underlying219
 a146 := Tryz.isAgg219
 z146 := Tryz.sizeOf219
 v146 := Tryz.zeroValue219
 t148 := Tryz.underlying221
 a148 := Tryz.isAgg221
 z148 := Tryz.sizeOf221
 v148 := Tryz.zeroValue221
 t164 := Tryz.underlying211
 a164 := Tryz.isAgg211
 z164 := Tryz.sizeOf211
 v164 := Tryz.zeroValue211 }
def Tryz.lays172_ren : Go.Shelf.Ren := ⟨fun | 172 => 200 | 244 => 233 | 245 => 190 | 247 => 204 | 279 => 221 | 280 => 222 | 281 => 223 | 282 => 224 | 287 => 189 | 316 => 246 | 171 => 109 | 205 => 247 | 321 => 219 | 322 => 220 | 243 => 164 | 246 => 201 | 283 => 234 | 284 => 235 | 285 => 236 | 286 => 237 | 129 => 155 | 317 => 252 | 318 => 253 | 319 => 254 | 320 => 255 | 337 => 260 | 338 => 261 | n => n, fun | 9 => 9 | 3 => 3 | 75 => 137 | 76 => 138 | 4 => 4 | 5 => 5 | 167 => 223 | 37 => 132 | 0 => 0 | 85 => 183 | 2 => 2 | 168 => 225 | 53 => 165 | 175 => 166 | 46 => 121 | 210 => 241 | 127 => 181 | 145 => 255 | 143 => 253 | 21 => 21 | 171 => 233 | 173 => 235 | 212 => 246 | 51 => 176 | 20 => 20 | 213 => 247 | 232 => 256 | 233 => 257 | 80 => 142 | n => n, fun | 15 => 1 | 16 => 2 | 17 => 3 | 18 => 6 | 19 => 7 | n => n⟩
theorem Tryz.lays172 : Go.Proofs.Lays.n172 Tryz.prog Tryz.lays172_ren := {
 mixed := by kernel_rfl
 f129 := Tryz.func155.trans (congrArg some (by kernel_rfl))
 f171 := Tryz.func109.trans (congrArg some (by kernel_rfl))
 f172 := Tryz.func200.trans (congrArg some (by kernel_rfl))
 f205 := Tryz.func247.trans (congrArg some (by kernel_rfl))
 f243 := Tryz.func164.trans (congrArg some (by kernel_rfl))
 f244 := Tryz.func233.trans (congrArg some (by kernel_rfl))
 f245 := Tryz.func190.trans (congrArg some (by kernel_rfl))
 f246 := Tryz.func201.trans (congrArg some (by kernel_rfl))
 f247 := Tryz.func204.trans (congrArg some (by kernel_rfl))
 f279 := Tryz.func221.trans (congrArg some (by kernel_rfl))
 f280 := Tryz.func222.trans (congrArg some (by kernel_rfl))
 f281 := Tryz.func223.trans (congrArg some (by kernel_rfl))
 f282 := Tryz.func224.trans (congrArg some (by kernel_rfl))
 f283 := Tryz.func234.trans (congrArg some (by kernel_rfl))
 f284 := Tryz.func235.trans (congrArg some (by kernel_rfl))
 f285 := Tryz.func236.trans (congrArg some (by kernel_rfl))
 f286 := Tryz.func237.trans (congrArg some (by kernel_rfl))
 f287 := Tryz.func189.trans (congrArg some (by kernel_rfl))
 f316 := Tryz.func246.trans (congrArg some (by kernel_rfl))
 f317 := Tryz.func252.trans (congrArg some (by kernel_rfl))
 f318 := Tryz.func253.trans (congrArg some (by kernel_rfl))
 f319 := Tryz.func254.trans (congrArg some (by kernel_rfl))
 f320 := Tryz.func255.trans (congrArg some (by kernel_rfl))
 f321 := Tryz.func219.trans (congrArg some (by kernel_rfl))
 f322 := Tryz.func220.trans (congrArg some (by kernel_rfl))
 f337 := Tryz.func260.trans (congrArg some (by kernel_rfl))
 f338 := Tryz.func261.trans (congrArg some (by kernel_rfl))
 t0 := Tryz.underlying0
 a0 := Tryz.isAgg0
 z0 := Tryz.sizeOf0
 v0 := Tryz.zeroValue0
 t2 := Tryz.underlying2
 a2 := Tryz.isAgg2
 z2 := Tryz.sizeOf2
 v2 := Tryz.zeroValue2
 t3 := Tryz.underlying3
 a3 := Tryz.isAgg3
 z3 := Tryz.sizeOf3
 v3 := Tryz.zeroValue3
 t4 := Tryz.underlying4
 a4 := Tryz.isAgg4
 z4 := Tryz.sizeOf4
 v4 := Tryz.zeroValue4
 t5 := Tryz.underlying5
 a5 := Tryz.isAgg5
 z5 := Tryz.sizeOf5
 v5 := Tryz.zeroValue5
 t9 := Tryz.underlying9
 a9 := Tryz.isAgg9
 z9 := Tryz.sizeOf9
 v9 := Tryz.zeroValue9
 t20 := Tryz.underlying20
 a20 := Tryz.isAgg20
 z20 := Tryz.sizeOf20
 v20 := Tryz.zeroValue20
 t21 := Tryz.underlying21
 a21 := Tryz.isAgg21
 z21 := Tryz.sizeOf21
 v21 := Tryz.zeroValue21
 t37 := Tryz.underlying132
 a37 := Tryz.isAgg132
 z37 := Tryz.sizeOf132
 v37 := Tryz.zeroValue132
 t46 := Tryz.underlying121
 a46 := Tryz.isAgg121
 z46 := Tryz.sizeOf121
 v46 := Tryz.zeroValue121
 t51 := Tryz.underlying176
 a51 := Tryz.isAgg176
 z51 := Tryz.sizeOf176
 v51 := Tryz.zeroValue176
 t53 := Tryz.underlying165
 a53 := Tryz.isAgg165
 z53 := Tryz.sizeOf165
 v53 := Tryz.zeroValue165
 t75 := Tryz.underlying137
 a75 := Tryz.isAgg137
 z75 := Tryz.sizeOf137
 v75 := Tryz.zeroValue137
 t76 := Tryz.underlying138
 a76 := Tryz.isAgg138
 z76 := Tryz.sizeOf138
 v76 := Tryz.zeroValue138
 t85 := Tryz.underlying183
 a85 := Tryz.isAgg183
 z85 := Tryz.sizeOf183
 v85 := Tryz.zeroValue183
 t127 := Tryz.underlying181
 a127 := Tryz.isAgg181
 z127 := Tryz.sizeOf181
 v127 := Tryz.zeroValue181
 t143 := Tryz.underlying253
 a143 := Tryz.isAgg253
 z143 := Tryz.sizeOf253
 v143 := Tryz.zeroValue253
 t145 := Tryz.underlying255
 a145 := Tryz.isAgg255
 z145 := Tryz.sizeOf255
 v145 := Tryz.zeroValue255
 t167 := Tryz.underlying223
 a167 := Tryz.isAgg223
 z167 := Tryz.sizeOf223
 v167 := Tryz.zeroValue223
 t168 := Tryz.underlying225
 a168 := Tryz.isAgg225
 z168 := Tryz.sizeOf225
 v168 := Tryz.zeroValue225
 t171 := Tryz.underlying233
 a171 := Tryz.isAgg233
 z171 := Tryz.sizeOf233
 v171 := Tryz.zeroValue233
 t173 := Tryz.underlying235
 a173 := Tryz.isAgg235
 z173 := Tryz.sizeOf235
 v173 := Tryz.zeroValue235
 t175 := Tryz.underlying166
 a175 := Tryz.isAgg166
 z175 := Tryz.sizeOf166
 v175 := Tryz.zeroValue166
 t210 := Tryz.underlying241
 a210 := Tryz.isAgg241
 z210 := Tryz.sizeOf241
 v210 := Tryz.zeroValue241
 t212 := Tryz.underlying246
 a212 := Tryz.isAgg246
 z212 := Tryz.sizeOf246
 v212 := Tryz.zeroValue246
 t213 := Tryz.underlying247
 a213 := Tryz.isAgg247
 z213 := Tryz.sizeOf247
 t232 := Tryz.underlying256
 a232 := Tryz.isAgg256
 z232 := Tryz.sizeOf256
 v232 := Tryz.zeroValue256
 t233 := Tryz.underlying257
 a233 := Tryz.isAgg257
 z233 := Tryz.sizeOf257
 v233 := Tryz.zeroValue257
 g15 := by kernel_rfl
 g16 := by kernel_rfl
 g17 := by kernel_rfl
 g18 := by kernel_rfl
 g19 := by kernel_rfl }
def Tryz.laysM171_ren : Go.Shelf.Ren := ⟨fun | 171 => 109 | 243 => 164 | 246 => 201 | 283 => 234 | 284 => 235 | 285 => 236 | 286 => 237 | 129 => 155 | 317 => 252 | 318 => 253 | 319 => 254 | 320 => 255 | 337 => 260 | 338 => 261 | n => n, fun | 3 => 3 | 9 => 9 | 2 => 2 | 4 => 4 | 171 => 233 | 0 => 0 | 53 => 165 | 37 => 132 | 5 => 5 | 173 => 235 | 212 => 246 | 51 => 176 | 20 => 20 | 213 => 247 | 46 => 121 | 232 => 256 | 233 => 257 | n => n, fun | 17 => 3 | 18 => 6 | 19 => 7 | n => n⟩
theorem Tryz.laysM171 : Go.Proofs.LaysM.n171 Tryz.prog Tryz.laysM171_ren := {
 mixed := by kernel_rfl
 f129 := Tryz.func155.trans (congrArg some (by kernel_rfl))
 f171 := Tryz.func109.trans (congrArg some (by kernel_rfl))
 f243 := Tryz.func164.trans (congrArg some (by kernel_rfl))
 f246 := Tryz.func201.trans (congrArg some (by kernel_rfl))
 f283 := Tryz.func234.trans (congrArg some (by kernel_rfl))
 f284 := Tryz.func235.trans (congrArg some (by kernel_rfl))
 f285 := Tryz.func236.trans (congrArg some (by kernel_rfl))
 f286 := Tryz.func237.trans (congrArg some (by kernel_rfl))
 f317 := Tryz.func252.trans (congrArg some (by kernel_rfl))
 f318 := Tryz.func253.trans (congrArg some (by kernel_rfl))
 f319 := Tryz.func254.trans (congrArg some (by kernel_rfl))
 f320 := Tryz.func255.trans (congrArg some (by kernel_rfl))
 f337 := Tryz.func260.trans (congrArg some (by kernel_rfl))
 f338 := Tryz.func261.trans (congrArg some (by kernel_rfl))
 t0 := Tryz.underlying0
 a0 := Tryz.isAgg0
 z0 := Tryz.sizeOf0
 v0 := Tryz.zeroValue0
 t2 := Tryz.underlying2
 a2 := Tryz.isAgg2
 z2 := Tryz.sizeOf2
 v2 := Tryz.zeroValue2
 t3 := Tryz.underlying3
 a3 := Tryz.isAgg3
 z3 := Tryz.sizeOf3
 v3 := Tryz.zeroValue3
 t4 := Tryz.underlying4
 a4 := Tryz.isAgg4
 z4 := Tryz.sizeOf4
 v4 := Tryz.zeroValue4
 t5 := Tryz.underlying5
 a5 := Tryz.isAgg5
 z5 := Tryz.sizeOf5
 v5 := Tryz.zeroValue5
 t9 := Tryz.underlying9
 a9 := Tryz.isAgg9
 z9 := Tryz.sizeOf9
 v9 := Tryz.zeroValue9
 t20 := Tryz.underlying20
 a20 := Tryz.isAgg20
 z20 := Tryz.sizeOf20
 v20 := Tryz.zeroValue20
 t37 := Tryz.underlying132
 a37 := Tryz.isAgg132
 z37 := Tryz.sizeOf132
 v37 := Tryz.zeroValue132
 t46 := Tryz.underlying121
 a46 := Tryz.isAgg121
 z46 := Tryz.sizeOf121
 v46 := Tryz.zeroValue121
 t51 := Tryz.underlying176
 a51 := Tryz.isAgg176
 z51 := Tryz.sizeOf176
 v51 := Tryz.zeroValue176
 t53 := Tryz.underlying165
 a53 := Tryz.isAgg165
 z53 := Tryz.sizeOf165
 v53 := Tryz.zeroValue165
 t171 := Tryz.underlying233
 a171 := Tryz.isAgg233
 z171 := Tryz.sizeOf233
 v171 := Tryz.zeroValue233
 t173 := Tryz.underlying235
 a173 := Tryz.isAgg235
 z173 := Tryz.sizeOf235
 v173 := Tryz.zeroValue235
 t212 := Tryz.underlying246
 a212 := Tryz.isAgg246
 z212 := Tryz.sizeOf246
 v212 := Tryz.zeroValue246
 t213 := Tryz.underlying247
 a213 := Tryz.isAgg247
 z213 := Tryz.sizeOf247
 t232 := Tryz.underlying256
 a232 := Tryz.isAgg256
 z232 := Tryz.sizeOf256
 v232 := Tryz.zeroValue256
 t233 := Tryz.underlying257
 a233 := Tryz.isAgg257
 z233 := Tryz.sizeOf257
 v233 := Tryz.zeroValue257
 g17 := by kernel_rfl
 g18 := by kernel_rfl
 g19 := by kernel_rfl
 i0 := by kernel_rfl
 i2 := by kernel_rfl
 i3 := by kernel_rfl
 i4 := by kernel_rfl
 i5 := by kernel_rfl
 i9 := by kernel_rfl
 i20 := by kernel_rfl
 i37 := by kernel_rfl
 i46 := by kernel_rfl
 i51 := by kernel_rfl
 i53 := by kernel_rfl
 i171 := by kernel_rfl
 i173 := by kernel_rfl
 i212 := by kernel_rfl
 i232 := by kernel_rfl
 i233 := by kernel_rfl
 m17 := by kernel_rfl
 m18 := by kernel_rfl
 m19 := by kernel_rfl }
def Tryz.laysC17_ren : Go.Shelf.Ren := ⟨fun | 17 => 185 | 15 => 213 | 20 => 244 | n => n, fun | 9 => 9 | 23 => 198 | 4 => 4 | 3 => 3 | 0 => 0 | 21 => 21 | n => n, fun | n => n⟩
theorem Tryz.laysC17 : Go.Proofs.LaysGw.n17 Tryz.prog Tryz.laysC17_ren := {
 mixed := by kernel_rfl
 f15 := Tryz.func213.trans (congrArg some (by kernel_rfl))
 f17 := Tryz.func185.trans (congrArg some (by kernel_rfl))
 f20 := Tryz.func244.trans (congrArg some (by kernel_rfl))
 t0 := Tryz.underlying0
 a0 := Tryz.isAgg0
 z0 := Tryz.sizeOf0
 v0 := Tryz.zeroValue0
 i0 := by kernel_rfl
 t3 := Tryz.underlying3
 a3 := Tryz.isAgg3
 z3 := Tryz.sizeOf3
 v3 := Tryz.zeroValue3
 i3 := by kernel_rfl
 t4 := Tryz.underlying4
 a4 := Tryz.isAgg4
 z4 := Tryz.sizeOf4
 v4 := Tryz.zeroValue4
 i4 := by kernel_rfl
 t9 := Tryz.underlying9
 a9 := Tryz.isAgg9
 z9 := Tryz.sizeOf9
 v9 := Tryz.zeroValue9
 i9 := by kernel_rfl
 t21 := Tryz.underlying21
 a21 := Tryz.isAgg21
 z21 := Tryz.sizeOf21
 v21 := Tryz.zeroValue21
 i21 := by kernel_rfl
 t23 := Tryz.underlying198
 a23 := Tryz.isAgg198
 z23 := Tryz.sizeOf198
 v23 := Tryz.zeroValue198
 i23 := by kernel_rfl }
end Go.Proofs
namespace Go.Proofs.YtahlodpolggeiaaGreatDoor
open Go Go.RowKit Go.Shelf Go.Lib Go.Proofs.YtahlodpolggeiaaGreatDoor.Eng
noncomputable def Q2b.f (a b : ByteArray) : Option Int := some (Lib.compareBytes a.data.toList b.data.toList)
noncomputable def Q2b.fn : TFn := ⟨[.str, .str], [.int .i64], fun x => Q2b.f x.1 x.2⟩
theorem Q2b.ok : FnOK Tryz.prog 124 Q2b.fn := by
 refine ⟨enters_of (c := Z5 Tryz.f124) Tryz.func124 (by kernel_rfl) (by kernel_rfl), ?_⟩
 rintro ⟨a, b⟩ r hr
 cases hr
 exact FPure.of_callsS (P := Tryz.prog) (f := 124) (args := [.string a, .string b]) (fun w => Any.strings_Compare Tryz.lays106 a b w)
noncomputable def Q1l.f (s : ByteArray) (c : UInt8) : Option Int := some (Lib.indexByte s.data.toList c)
noncomputable def Q1l.fn : TFn := ⟨[.str, .byte], [.int .i64], fun x => Q1l.f x.1 x.2⟩
theorem Q1l.ok : FnOK Tryz.prog 226 Q1l.fn := by
 refine ⟨enters_of (c := Z5 Tryz.f226) Tryz.func226 (by kernel_rfl) (by kernel_rfl), ?_⟩
 rintro ⟨s, c⟩ r hr
 cases hr
 refine FPure.of_callsS (P := Tryz.prog) (f := 226) (args := [.string s, .int .u8 (c.toNat : Int)]) (fun w => ?_)
 have h := Any.stringslite_IndexByte Tryz.lays217 s (c.toNat : Int) w
 have e : ((c.toNat : Int)).toNat.toUInt8 = c := by
  show UInt8.ofNat (c.toNat) = c
  exact UInt8.ofNat_toNat
 rw [e] at h
 exact h
noncomputable def Q1a.f (s sep : ByteArray) : Option Int := ck (sep.data.toList.length = 1) (some (Lib.indexByte s.data.toList (sep.data.toList.headD 0)))
noncomputable def Q1a.fn : TFn := ⟨[.str, .str], [.int .i64], fun x => Q1a.f x.1 x.2⟩
theorem Q1a.ok : FnOK Tryz.prog 198 Q1a.fn := by
 refine ⟨enters_of (c := Z5 Tryz.f198) Tryz.func198 (by kernel_rfl) (by kernel_rfl), ?_⟩
 rintro ⟨s, sep⟩ r hr
 obtain ⟨h1, h2⟩ := Z14 (show ck _ _ = some r from hr)
 cases h2
 obtain ⟨c, hc⟩ := List.length_eq_one_iff.1 h1
 have hs : sep = ⟨#[c]⟩ := by
  apply ByteArray.ext
  apply Array.toList_inj.1
  exact hc
 subst hs
 exact FPure.of_callsS (P := Tryz.prog) (f := 198) (args := [.string s, .string ⟨#[c]⟩]) (fun w => Any.stringslite_Index_one Tryz.lays219 s c w)
noncomputable def Q29.f (s sep : ByteArray) : Option Int := ck (sep.data.toList.length = 1) (some ((Lib.countByte s.data.toList (sep.data.toList.headD 0) : Nat)))
noncomputable def Q29.fn : TFn := ⟨[.str, .str], [.int .i64], fun x => Q29.f x.1 x.2⟩
theorem Q29.ok : FnOK Tryz.prog 231 Q29.fn := by
 refine ⟨enters_of (c := Z5 Tryz.f231) Tryz.func231 (by kernel_rfl) (by kernel_rfl), ?_⟩
 rintro ⟨s, sep⟩ r hr
 obtain ⟨h1, h2⟩ := Z14 (show ck _ _ = some r from hr)
 cases h2
 obtain ⟨c, hc⟩ := List.length_eq_one_iff.1 h1
 have hs : sep = ⟨#[c]⟩ := by
  apply ByteArray.ext
  apply Array.toList_inj.1
  exact hc
 subst hs
 exact FPure.of_callsS (P := Tryz.prog) (f := 231) (args := [.string s, .string ⟨#[c]⟩]) (fun w => Any.strings_Count_one Tryz.lays138 s c w)
noncomputable def Q28.f (s cs : ByteArray) : Option ByteArray := ck (s.size ≤ 9223372036854775807 ∧ cs.size < 4294967281 ∧ cs.data.toList.all (fun b => decide (b.toNat < 128)) = true) (some ⟨(Lib.trimS s.data.toList cs.data.toList).toArray⟩)
noncomputable def Q28.fn : TFn := ⟨[.str, .str], [.str], fun x => Q28.f x.1 x.2⟩
theorem Q28.ok : FnOK Tryz.prog 121 Q28.fn := by
 refine ⟨enters_of (c := Z5 Tryz.f121) Tryz.func121 (by kernel_rfl) (by kernel_rfl), ?_⟩
 rintro ⟨s, cs⟩ r hr
 obtain ⟨⟨h1, h2, h3⟩, h4⟩ := Z14 (show ck _ _ = some r from hr)
 cases h4
 have h := fun w => Any.strings_Trim_laid Tryz.lays160 (by kernel_rfl) s cs w h1 h2 (ascii_of_all h3)
 exact FPure.of_calls (P := Tryz.prog) (f := 121) (args := [.string s, .string cs]) h
def Z1n (r : Nat) : Bool := decide (r < 33 ∨ 126 < r)
theorem Z9i (w : World) : PredAtRunes Tryz.prog 186 #[] Z1n w := by
 intro W x hx hb
 have e : Z1n x = (decide ((x : Int) < 33) || decide (126 < (x : Int))) := by
  unfold Z1n
  by_cases h1 : x < 33
  ·have h2 : (x : Int) < 33 := by omega
   simp [h1, h2]
  ·by_cases h3 : 126 < x
   ·have h4 : 126 < (x : Int) := by omega
    simp [h3, h4]
   ·have h2 : ¬ (x : Int) < 33 := by omega
    have h4 : ¬ 126 < (x : Int) := by omega
    simp [h1, h3, h2, h4]
 unfold FnGives
 go_enter Tryz.func186, Tryz.ntmps186
 go_wp2
 all_goals go_ret
 all_goals refine ⟨?_, 0, rfl⟩
 ·rw [e]; rfl
 ·rfl
theorem FPure.of_callsA {P : Program} {f : Nat} {args : List AV} {vals : List Value} {r : Value} (hl : args.length = vals.length) (hv : ∀ (σ : Nat → Option Blk) (F : Nat → Prop) (w : World) (j : Nat) (x : AV) (v : Value), args[j]? = some x → RepV σ F w x v → vals[j]? = some v)
  (h : ∀ w : World, Calls P f vals.toArray w fun e w' => e = .returned r ∧ Below w.heap.size w w') : FPure P f args (.v r) := by
 intro σ F w vs hr hl' hv'
 have hvs : vs = vals := by
  apply List.ext_getElem?
  intro j
  by_cases hj : j < args.length
  ·have hj2 : j < vs.length := by rw [← hl']; exact hj
   have := hv σ F w j args[j] vs[j] (List.getElem?_eq_getElem hj) (hv' j args[j] vs[j] (List.getElem?_eq_getElem hj) (List.getElem?_eq_getElem hj2))
   rw [this, List.getElem?_eq_getElem hj2]
  ·rw [List.getElem?_eq_none (by omega), List.getElem?_eq_none (by omega)]
 subst hvs
 have hno : ∀ id g, ¬ hasB σ id g := fun id g h => by
  obtain ⟨k, h, _⟩ := h
  rw [hr.out id (Nat.zero_le _)] at h; cases h
 refine (h w).mono ?_
 rintro e w' ⟨rfl, hb⟩
 refine ⟨.v r, [], σ, F, r, ⟨rfl, rfl⟩, rfl, .f _ _ (.v _), ⟨fun id o ho => by simp at ho, hr.out, hr.inj, fun id g h => absurd h (hno id g), fun b hb' => Nat.lt_of_lt_of_le (hr.flt b hb') hb.size, hr.lay.mono (fun _ h => h) (fun b hb' => hb.block b (hr.flt b hb'))⟩, ⟨hb.os, hb.tape, hb.output, hb.size, fun b hb' _ => hb.block b hb'⟩, fun id g h => absurd h (hno id g), fun b h => .inl h, fun id h => absurd h (Nat.not_lt_zero _), Nat.le_refl _⟩
noncomputable def Q1n.f (s : ByteArray) (_ : Unit) : Option Bool := some (decide (0 ≤ Lib.idxFunc Z1n true s))
noncomputable def Q1n.fn : TFn := ⟨[.str, .fnc 186], [.bool], fun x => Q1n.f x.1 x.2⟩
theorem Q1n.ok : FnOK Tryz.prog 185 Q1n.fn := by
 refine ⟨enters_of (c := Z5 Tryz.f185) Tryz.func185 (by kernel_rfl) (by kernel_rfl), ?_⟩
 rintro ⟨s, u⟩ r hr
 cases hr
 have h := fun w => Any.strings_ContainsFunc_runes Tryz.laysC17 186 #[] (enters_of Tryz.func186 (by kernel_rfl) rfl) Z1n s w (Z9i w)
 refine FPure.of_callsA (P := Tryz.prog) (f := 185) (args := [.v (.string s), .fn 186 []]) (vals := [.string s, .func (.func 186) #[] #[]]) rfl (fun σ F w j x v hx hr => ?_) h
 match j, hx with
 | 0, hx => cases hx; rw [RepV.val hr]; rfl
 | 1, hx =>
  cases hx
  obtain ⟨vs, rfl, hl, _⟩ := RepV.fnv hr
  have : vs = [] := List.eq_nil_of_length_eq_zero hl.symm
  subst this
  rfl
theorem Builder_Extra_156 : Builder.Extra Tryz.prog Tryz.lays156_ren where
 sizeBuilder := by kernel_rfl
 liesBuilder := by kernel_rfl
 t5 := by kernel_rfl
 a5 := Tryz.isAgg5
 z5 := Tryz.sizeOf5
 v5 := Tryz.zeroValue5
 infoByte := by kernel_rfl
 cellsByte := by kernel_rfl
 sizeByte := by kernel_rfl
 neB5 := by decide
noncomputable def Zb8 (xs : List ByteArray) (sep : ByteArray) : ByteArray := ⟨(Lib.join (xs.map (·.data.toList)) sep.data.toList).toArray⟩
noncomputable def Q27.f (xs : List ByteArray) (sep : ByteArray) : Option ByteArray := ck (xs.length ≤ 140737488355328 ∧ (Zb8 xs sep).size ≤ 140737488355328) (some (Zb8 xs sep))
noncomputable def Q27.fn : TFn := ⟨[.slice .str, .str], [.str], fun x => Q27.f x.1 x.2⟩
theorem Q27.ok : FnOK Tryz.prog 111 Q27.fn := by
 refine ⟨enters_of (c := Z5 Tryz.f111) Tryz.func111 (by kernel_rfl) (by kernel_rfl), ?_⟩
 rintro ⟨xs, sep⟩ r hr
 obtain ⟨⟨h1, h2⟩, h3⟩ := Z14 (show ck _ _ = some r from hr)
 cases h3
 have h4 : (Lib.join ((xs : List ByteArray).map (·.data.toList)) sep.data.toList).length ≤ 140737488355328 := by
  have e : (Zb8 xs sep).size = (Lib.join ((xs : List ByteArray).map (·.data.toList)) sep.data.toList).length := List.size_toArray ..
  rw [← e]; exact h2
 refine FPure.ofRowS (xs := xs) (fun h0 a c w => ?_) (fun bk o c w hc hb hl => ?_)
 ·have h0 : (xs : List ByteArray) = [] := h0
  subst h0
  exact (Any.strings_Join_none Tryz.lays156 Builder_Extra_156 a c sep w).mono fun e w' ⟨he, hw⟩ => ⟨he, hw ▸ Below.refl _ _⟩
 ·exact Any.strings_Join Tryz.lays156 Builder_Extra_156 bk o c xs sep w hc hb h1 hl h4
theorem Ze2 {w : World} (h : ∀ p ∈ LAID, ∃ e q, w.heap[p.1]? = some (.cells p.2 e q)) : Lib.TabIs Tryz.prog w "internal/strconv.uint64pow10" .u64 Lib.pow10Tab := by
 obtain ⟨e, q, h1⟩ := h (3, (Lib.pow10Tab.map fun z => Value.int .u64 z).toArray) (by simp [LAID])
 have hg : Tryz.prog.globalNamed "internal/strconv.uint64pow10" = some 3 := by kernel_rfl
 unfold Lib.TabIs World.var?
 rw [hg]
 simp only [Option.bind_some, h1]
noncomputable def Zb9 (n : Int) : ByteArray := ⟨(Lib.itoa n).toArray⟩
noncomputable def Q26.f (n : Int) : Option ByteArray := ck (-9223372036854775808 ≤ n ∧ n ≤ 9223372036854775807) (some (Zb9 n))
noncomputable def Q26.fn : TFn := ⟨[.int .i64], [.str], fun x => Q26.f x⟩
theorem Q26.ok : FnOK Tryz.prog 109 Q26.fn := by
 refine ⟨enters_of (c := Z5 Tryz.f109) Tryz.func109 (by kernel_rfl) (by kernel_rfl), ?_⟩
 intro n r hr
 obtain ⟨⟨h1, h2⟩, h3⟩ := Z14 (show ck _ _ = some r from hr)
 cases h3
 refine FPure.of_callsL (P := Tryz.prog) (f := 109) (args := [.int .i64 n]) (fun w hw => ?_)
 refine (Any.strconv_Itoa Tryz.laysM171 n h1 h2 w (Ze2 hw)).mono ?_
 rintro e w' ⟨he, k, os, rfl⟩
 exact ⟨he, below_grown_sl _ w k os (Nat.le_refl _)⟩
end Go.Proofs.YtahlodpolggeiaaGreatDoor
set_option linter.unusedVariables false
set_option maxRecDepth 100000
namespace Go.Proofs
open Go.Shelf
def Tryz.lays190_ren : Go.Shelf.Ren := ⟨fun | 190 => 47 | 125 => 100 | 258 => 99 | 128 => 154 | 129 => 155 | 302 => 145 | 303 => 146 | 304 => 147 | 305 => 148 | 306 => 149 | 307 => 150 | 308 => 151 | 309 => 152 | 310 => 153 | 333 => 192 | 329 => 193 | 330 => 194 | 334 => 195 | 335 => 196 | 336 => 197 | 344 => 225 | n => n, fun | 31 => 24 | 9 => 9 | 3 => 3 | 46 => 121 | 0 => 0 | 51 => 176 | 53 => 165 | 4 => 4 | 183 => 170 | 182 => 169 | 131 => 148 | 5 => 5 | 218 => 203 | 222 => 207 | 228 => 228 | 229 => 229 | n => n, fun | n => n⟩
theorem Tryz.lays190 : Go.Proofs.Lays.n190 Tryz.prog Tryz.lays190_ren := {
 mixed := by kernel_rfl
 f125 := Tryz.func100.trans (congrArg some (by kernel_rfl))
 f128 := Tryz.func154.trans (congrArg some (by kernel_rfl))
 f129 := Tryz.func155.trans (congrArg some (by kernel_rfl))
 f190 := Tryz.func47.trans (congrArg some (by kernel_rfl))
 f258 := Tryz.func99.trans (congrArg some (by kernel_rfl))
 f302 := Tryz.func145.trans (congrArg some (by kernel_rfl))
 f303 := Tryz.func146.trans (congrArg some (by kernel_rfl))
 f304 := Tryz.func147.trans (congrArg some (by kernel_rfl))
 f305 := Tryz.func148.trans (congrArg some (by kernel_rfl))
 f306 := Tryz.func149.trans (congrArg some (by kernel_rfl))
 f307 := Tryz.func150.trans (congrArg some (by kernel_rfl))
 f308 := Tryz.func151.trans (congrArg some (by kernel_rfl))
 f309 := Tryz.func152.trans (congrArg some (by kernel_rfl))
 f310 := Tryz.func153.trans (congrArg some (by kernel_rfl))
 f329 := Tryz.func193.trans (congrArg some (by kernel_rfl))
 f330 := Tryz.func194.trans (congrArg some (by kernel_rfl))
 f333 := Tryz.func192.trans (congrArg some (by kernel_rfl))
 f334 := Tryz.func195.trans (congrArg some (by kernel_rfl))
 f335 := Tryz.func196.trans (congrArg some (by kernel_rfl))
 f336 := Tryz.func197.trans (congrArg some (by kernel_rfl))
 f344 := Tryz.func225.trans (congrArg some (by kernel_rfl))
 t0 := Tryz.underlying0
 a0 := Tryz.isAgg0
 z0 := Tryz.sizeOf0
 v0 := Tryz.zeroValue0
 t3 := Tryz.underlying3
 a3 := Tryz.isAgg3
 z3 := Tryz.sizeOf3
 v3 := Tryz.zeroValue3
 t4 := Tryz.underlying4
 a4 := Tryz.isAgg4
 z4 := Tryz.sizeOf4
 v4 := Tryz.zeroValue4
 t5 := Tryz.underlying5
 a5 := Tryz.isAgg5
 z5 := Tryz.sizeOf5
 v5 := Tryz.zeroValue5
 t9 := Tryz.underlying9
 a9 := Tryz.isAgg9
 z9 := Tryz.sizeOf9
 v9 := Tryz.zeroValue9
 t31 := Tryz.underlying24
 a31 := Tryz.isAgg24
 z31 := Tryz.sizeOf24
 v31 := Tryz.zeroValue24
 t46 := Tryz.underlying121
 a46 := Tryz.isAgg121
 z46 := Tryz.sizeOf121
 v46 := Tryz.zeroValue121
 t51 := Tryz.underlying176
 a51 := Tryz.isAgg176
 z51 := Tryz.sizeOf176
 v51 := Tryz.zeroValue176
 t53 := Tryz.underlying165
 a53 := Tryz.isAgg165
 z53 := Tryz.sizeOf165
 v53 := Tryz.zeroValue165
 t131 := Tryz.underlying148
 a131 := Tryz.isAgg148
 z131 := Tryz.sizeOf148
 v131 := Tryz.zeroValue148
 t182 := Tryz.underlying169
 a182 := Tryz.isAgg169
 z182 := Tryz.sizeOf169
 v182 := Tryz.zeroValue169
 t183 := Tryz.underlying170
 a183 := Tryz.isAgg170
 z183 := Tryz.sizeOf170
 v183 := Tryz.zeroValue170
 t218 := Tryz.underlying203
 a218 := Tryz.isAgg203
 z218 := Tryz.sizeOf203
 v218 := Tryz.zeroValue203
 t222 := Tryz.underlying207
 a222 := Tryz.isAgg207
 z222 := Tryz.sizeOf207
 v222 := Tryz.zeroValue207
 t228 := Tryz.underlying228
 a228 := Tryz.isAgg228
 z228 := Tryz.sizeOf228
 v228 := Tryz.zeroValue228
 t229 := Tryz.underlying229
 a229 := Tryz.isAgg229
 z229 := Tryz.sizeOf229
 v229 := Tryz.zeroValue229 }
def Tryz.lays194_ren : Go.Shelf.Ren := ⟨fun | 194 => 48 | n => n, fun | 31 => 24 | 9 => 9 | 3 => 3 | 4 => 4 | 0 => 0 | n => n, fun | n => n⟩
theorem Tryz.lays194 : Go.Proofs.Lays.n194 Tryz.prog Tryz.lays194_ren := {
 mixed := by kernel_rfl
 f194 := Tryz.func48.trans (congrArg some (by kernel_rfl))
 t0 := Tryz.underlying0
 a0 := Tryz.isAgg0
 z0 := Tryz.sizeOf0
 v0 := Tryz.zeroValue0
 t3 := Tryz.underlying3
 a3 := Tryz.isAgg3
 z3 := Tryz.sizeOf3
 v3 := Tryz.zeroValue3
 t4 := Tryz.underlying4
 a4 := Tryz.isAgg4
 z4 := Tryz.sizeOf4
 v4 := Tryz.zeroValue4
 t9 := Tryz.underlying9
 a9 := Tryz.isAgg9
 z9 := Tryz.sizeOf9
 v9 := Tryz.zeroValue9
 t31 := Tryz.underlying24
 a31 := Tryz.isAgg24
 z31 := Tryz.sizeOf24
 v31 := Tryz.zeroValue24 }
end Go.Proofs
namespace Go.Proofs.YtahlodpolggeiaaGreatDoor
open Go Go.RowKit Go.Proofs.YtahlodpolggeiaaGreatDoor.Eng
theorem putS (w : World) (blk off : Nat) (l : List (List UInt8)) : Sort.putRow Go.Proofs.encStr w blk off l.toArray = Sort.putRow _root_.id w blk off (l.map Go.Proofs.encStr).toArray := by
 unfold Sort.putRow Sort.putCells
 congr 1
 funext c
 apply Array.ext
 ·simp
 ·intro t h1 h2
  simp only [Array.getElem_mapIdx, List.size_toArray, List.length_map]
  by_cases hc : off ≤ t ∧ t < off + l.length
  ·rw [if_pos hc, if_pos hc, getElem!_pos _ (t - off) (by simp; omega), getElem!_pos _ (t - off) (by simp; omega)]
   simp
  ·rw [if_neg hc, if_neg hc]
end Go.Proofs.YtahlodpolggeiaaGreatDoor
set_option linter.unusedVariables false
set_option maxRecDepth 100000
namespace Go.Proofs
open Go.Shelf
def Tryz.keys98_ren : Go.Shelf.Ren := ⟨fun | 7 => 98 | 10 => 144 | n => n, fun | 23 => 103 | 26 => 9 | 3 => 4 | 28 => 117 | 0 => 0 | 27 => 116 | 33 => 82 | 4 => 4 | n => n, fun | n => n⟩
theorem Tryz.keys98 : Go.Proofs.SlLaysZ.n7 Tryz.prog Tryz.keys98_ren := {
 mixed := by kernel_rfl
 f7 := ⟨Tryz.f98.name, by decide, Tryz.func98.trans (congrArg some (by kernel_rfl))⟩
 f10 := ⟨Tryz.f144.name, by decide, Tryz.func144.trans (congrArg some (by kernel_rfl))⟩
 t0 := Tryz.underlying0
 a0 := Tryz.isAgg0
 z0 := Tryz.sizeOf0
 v0 := Tryz.zeroValue0
 t4 := Tryz.underlying4
 a4 := Tryz.isAgg4
 z4 := Tryz.sizeOf4
 v4 := Tryz.zeroValue4
 t23 := Tryz.underlying103
 a23 := Tryz.isAgg103
 z23 := Tryz.sizeOf103
 v23 := Tryz.zeroValue103
 t26 := Tryz.underlying9
 a26 := Tryz.isAgg9
 z26 := Tryz.sizeOf9
 v26 := Tryz.zeroValue9
 t27 := Tryz.underlying116
 a27 := Tryz.isAgg116
 z27 := Tryz.sizeOf116
 v27 := Tryz.zeroValue116
 t28 := Tryz.underlying117
 a28 := Tryz.isAgg117
 z28 := Tryz.sizeOf117
 v28 := Tryz.zeroValue117
 t33 := Tryz.underlying82
 a33 := Tryz.isAgg82
 z33 := Tryz.sizeOf82
 v33 := Tryz.zeroValue82 }
def Tryz.keys103_ren : Go.Shelf.Ren := ⟨fun | 7 => 103 | 10 => 158 | n => n, fun | 23 => 125 | 26 => 9 | 3 => 78 | 28 => 117 | 0 => 0 | 27 => 116 | 33 => 82 | 4 => 4 | n => n, fun | n => n⟩
theorem Tryz.keys103 : Go.Proofs.SlLaysZ.n7 Tryz.prog Tryz.keys103_ren := {
 mixed := by kernel_rfl
 f7 := ⟨Tryz.f103.name, by decide, Tryz.func103.trans (congrArg some (by kernel_rfl))⟩
 f10 := ⟨Tryz.f158.name, by decide, Tryz.func158.trans (congrArg some (by kernel_rfl))⟩
 t0 := Tryz.underlying0
 a0 := Tryz.isAgg0
 z0 := Tryz.sizeOf0
 v0 := Tryz.zeroValue0
 t4 := Tryz.underlying4
 a4 := Tryz.isAgg4
 z4 := Tryz.sizeOf4
 v4 := Tryz.zeroValue4
 t23 := Tryz.underlying125
 a23 := Tryz.isAgg125
 z23 := Tryz.sizeOf125
 v23 := Tryz.zeroValue125
 t26 := Tryz.underlying9
 a26 := Tryz.isAgg9
 z26 := Tryz.sizeOf9
 v26 := Tryz.zeroValue9
 t27 := Tryz.underlying116
 a27 := Tryz.isAgg116
 z27 := Tryz.sizeOf116
 v27 := Tryz.zeroValue116
 t28 := Tryz.underlying117
 a28 := Tryz.isAgg117
 z28 := Tryz.sizeOf117
 v28 := Tryz.zeroValue117
 t33 := Tryz.underlying82
 a33 := Tryz.isAgg82
 z33 := Tryz.sizeOf82
 v33 := Tryz.zeroValue82 }
def Tryz.sorted97_ren : Go.Shelf.Ren := ⟨fun | 6 => 97 | 8 => 143 | 9 => 47 | 11 => 191 | 13 => 100 | 12 => 99 | 23 => 154 | 24 => 155 | 14 => 145 | 15 => 146 | 16 => 147 | 17 => 148 | 18 => 149 | 19 => 150 | 20 => 151 | 21 => 152 | 22 => 153 | 25 => 192 | 26 => 193 | 27 => 194 | 28 => 195 | 29 => 196 | 30 => 197 | 31 => 225 | n => n, fun | 26 => 9 | 28 => 117 | 24 => 24 | 0 => 0 | 3 => 3 | 37 => 121 | 48 => 176 | 50 => 165 | 4 => 4 | 40 => 170 | 39 => 169 | 45 => 148 | 5 => 5 | 9 => 9 | 51 => 203 | 55 => 207 | 57 => 228 | 58 => 229 | 33 => 82 | n => n, fun | n => n⟩
theorem Tryz.sorted97 : Go.Proofs.SlLaysZ.n6 Tryz.prog Tryz.sorted97_ren := {
 mixed := by kernel_rfl
 f6 := ⟨Tryz.f97.name, by decide, Tryz.func97.trans (congrArg some (by kernel_rfl))⟩
 f8 := ⟨Tryz.f143.name, by decide, Tryz.func143.trans (congrArg some (by kernel_rfl))⟩
 f11 := ⟨Tryz.f191.name, by decide, Tryz.func191.trans (congrArg some (by kernel_rfl))⟩
 t0 := Tryz.underlying0
 a0 := Tryz.isAgg0
 z0 := Tryz.sizeOf0
 v0 := Tryz.zeroValue0
 t24 := Tryz.underlying24
 a24 := Tryz.isAgg24
 z24 := Tryz.sizeOf24
 v24 := Tryz.zeroValue24
 t26 := Tryz.underlying9
 a26 := Tryz.isAgg9
 z26 := Tryz.sizeOf9
 v26 := Tryz.zeroValue9
 t28 := Tryz.underlying117
 a28 := Tryz.isAgg117
 z28 := Tryz.sizeOf117
 v28 := Tryz.zeroValue117
 i26 := by kernel_rfl }
def Tryz.sort47_ren : Go.Shelf.Ren := ⟨fun | 6 => 47 | 8 => 100 | 9 => 99 | 19 => 154 | 20 => 155 | 21 => 145 | 22 => 146 | 23 => 147 | 24 => 148 | 25 => 149 | 26 => 150 | 27 => 151 | 28 => 152 | 29 => 153 | 36 => 192 | 31 => 193 | 32 => 194 | 37 => 195 | 38 => 196 | 39 => 197 | 41 => 225 | n => n, fun | 27 => 24 | 29 => 9 | 3 => 3 | 32 => 121 | 26 => 24 | 0 => 0 | 44 => 176 | 46 => 165 | 4 => 4 | 36 => 170 | 35 => 169 | 41 => 148 | 5 => 5 | 9 => 9 | 53 => 203 | 57 => 207 | 63 => 228 | 64 => 229 | n => n, fun | n => n⟩
theorem Tryz.sort47 : Go.Proofs.SlLaysM.n6 Tryz.prog Tryz.sort47_ren := {
 mixed := by kernel_rfl
 f6 := ⟨Tryz.f47.name, by decide, Tryz.func47.trans (congrArg some (by kernel_rfl))⟩
 f8 := Tryz.func100.trans (congrArg some (by kernel_rfl))
 f9 := ⟨Tryz.f99.name, by decide, Tryz.func99.trans (congrArg some (by kernel_rfl))⟩
 f19 := Tryz.func154.trans (congrArg some (by kernel_rfl))
 f20 := Tryz.func155.trans (congrArg some (by kernel_rfl))
 f21 := ⟨Tryz.f145.name, by decide, Tryz.func145.trans (congrArg some (by kernel_rfl))⟩
 f22 := ⟨Tryz.f146.name, by decide, Tryz.func146.trans (congrArg some (by kernel_rfl))⟩
 f23 := ⟨Tryz.f147.name, by decide, Tryz.func147.trans (congrArg some (by kernel_rfl))⟩
 f24 := ⟨Tryz.f148.name, by decide, Tryz.func148.trans (congrArg some (by kernel_rfl))⟩
 f25 := ⟨Tryz.f149.name, by decide, Tryz.func149.trans (congrArg some (by kernel_rfl))⟩
 f26 := ⟨Tryz.f150.name, by decide, Tryz.func150.trans (congrArg some (by kernel_rfl))⟩
 f27 := ⟨Tryz.f151.name, by decide, Tryz.func151.trans (congrArg some (by kernel_rfl))⟩
 f28 := ⟨Tryz.f152.name, by decide, Tryz.func152.trans (congrArg some (by kernel_rfl))⟩
 f29 := ⟨Tryz.f153.name, by decide, Tryz.func153.trans (congrArg some (by kernel_rfl))⟩
 f31 := Tryz.func193.trans (congrArg some (by kernel_rfl))
 f32 := Tryz.func194.trans (congrArg some (by kernel_rfl))
 f36 := ⟨Tryz.f192.name, by decide, Tryz.func192.trans (congrArg some (by kernel_rfl))⟩
 f37 := ⟨Tryz.f195.name, by decide, Tryz.func195.trans (congrArg some (by kernel_rfl))⟩
 f38 := ⟨Tryz.f196.name, by decide, Tryz.func196.trans (congrArg some (by kernel_rfl))⟩
 f39 := ⟨Tryz.f197.name, by decide, Tryz.func197.trans (congrArg some (by kernel_rfl))⟩
 f41 := ⟨Tryz.f225.name, by decide, Tryz.func225.trans (congrArg some (by kernel_rfl))⟩
 t0 := Tryz.underlying0
 a0 := Tryz.isAgg0
 z0 := Tryz.sizeOf0
 v0 := Tryz.zeroValue0
 t3 := Tryz.underlying3
 a3 := Tryz.isAgg3
 z3 := Tryz.sizeOf3
 v3 := Tryz.zeroValue3
 t4 := Tryz.underlying4
 a4 := Tryz.isAgg4
 z4 := Tryz.sizeOf4
 v4 := Tryz.zeroValue4
 t5 := Tryz.underlying5
 a5 := Tryz.isAgg5
 z5 := Tryz.sizeOf5
 v5 := Tryz.zeroValue5
 t9 := Tryz.underlying9
 a9 := Tryz.isAgg9
 z9 := Tryz.sizeOf9
 v9 := Tryz.zeroValue9
 t26 := Tryz.underlying24
 a26 := Tryz.isAgg24
 z26 := Tryz.sizeOf24
 v26 := Tryz.zeroValue24
 t27 := Tryz.underlying24
 a27 := Tryz.isAgg24
 z27 := Tryz.sizeOf24
 v27 := Tryz.zeroValue24
 t29 := Tryz.underlying9
 a29 := Tryz.isAgg9
 z29 := Tryz.sizeOf9
 v29 := Tryz.zeroValue9
 t32 := Tryz.underlying121
 a32 := Tryz.isAgg121
 z32 := Tryz.sizeOf121
 v32 := Tryz.zeroValue121
 t35 := Tryz.underlying169
 a35 := Tryz.isAgg169
 z35 := Tryz.sizeOf169
 v35 := Tryz.zeroValue169
 t36 := Tryz.underlying170
 a36 := Tryz.isAgg170
 z36 := Tryz.sizeOf170
 v36 := Tryz.zeroValue170
 t41 := Tryz.underlying148
 a41 := Tryz.isAgg148
 z41 := Tryz.sizeOf148
 v41 := Tryz.zeroValue148
 t44 := Tryz.underlying176
 a44 := Tryz.isAgg176
 z44 := Tryz.sizeOf176
 v44 := Tryz.zeroValue176
 t46 := Tryz.underlying165
 a46 := Tryz.isAgg165
 z46 := Tryz.sizeOf165
 v46 := Tryz.zeroValue165
 t53 := Tryz.underlying203
 a53 := Tryz.isAgg203
 z53 := Tryz.sizeOf203
 v53 := Tryz.zeroValue203
 t57 := Tryz.underlying207
 a57 := Tryz.isAgg207
 z57 := Tryz.sizeOf207
 v57 := Tryz.zeroValue207
 t63 := Tryz.underlying228
 a63 := Tryz.isAgg228
 z63 := Tryz.sizeOf228
 v63 := Tryz.zeroValue228
 t64 := Tryz.underlying229
 a64 := Tryz.isAgg229
 z64 := Tryz.sizeOf229
 v64 := Tryz.zeroValue229 }
end Go.Proofs
namespace Go.Proofs.YtahlodpolggeiaaGreatDoor
open Go Go.RowKit Go.Maps Go.Sort Go.Shelf Go.Proofs.YtahlodpolggeiaaGreatDoor.Eng
abbrev Sc : Type := ByteArray × (Int × Int)
end Go.Proofs.YtahlodpolggeiaaGreatDoor
set_option linter.unusedVariables false
set_option maxRecDepth 100000
namespace Go.Proofs.YtahlodpolggeiaaGreatDoor
open Go Go.Proofs.YtahlodpolggeiaaGreatDoor.Eng
abbrev ClB : Ty := .pair .str (.pair .str (.pair .str (.pair .str (.pair (.int .i64) (.pair (.slice .str) .str)))))
noncomputable def bwC : Cx := ⟨T, TYt, lkF [], lkO [], lkD [], lkP [], [], [], false, [], [], lkS [], 4, lkW [], 0⟩
theorem bw_hC : CxOK Tryz.prog bwC := ⟨tabOK, FsOK.nil, OsOK.nil, mixed, (fun t h => by cases h), (fun t e h => by cases h), SsOK.nil, WsOK.nil⟩
noncomputable def Q16.f (l : List (ByteArray × (ByteArray × (ByteArray × (ByteArray × (Int × ((List ByteArray) × ByteArray))))))) : Option (List (ByteArray × (ByteArray × (ByteArray × (ByteArray × (Int × ((List ByteArray) × ByteArray))))))) := some l
noncomputable def Q16.fn : TFn := ⟨[.slice ClB], [.clo 141 (.ref (.slice ClB))], fun x => Q16.f x⟩
noncomputable def bw_root : Code := Z5 Tryz.f92
theorem Q16.ok : FnOK Tryz.prog 92 Q16.fn :=
 FnOK.of (L := lkL []) (root := bw_root) bw_hC (enters_of (c := bw_root) Tryz.func92 (by kernel_rfl) (by kernel_rfl)) Tryz.func92 (by kernel_rfl) (rs := [.tmp 2]) (by kernel_rfl) (by kernel_rfl) LsOK.nil (fun x => by kernel_rfl)
def Ze3 (root : Code) (p : List Nat) : List Oper := match atC root p with
 | some (.region _ ops _) => ops.toList
 | _ => []
noncomputable def bi_root : Code := Z5 Tryz.f141
noncomputable def bi_oc : Oper := (Ze3 bi_root [0, 0, 0, 1, 0, 0, 1]).getD 6 default
noncomputable def bi_on : Oper := (Ze3 bi_root [0, 0, 0, 1, 0, 0, 1]).getD 7 default
def elB (cs : List AV) : AV := Z19 ti34 cs
theorem bi_shape : bi_root = .seq (.region 0 (Ze3 bi_root [0]).toArray false) (.block 0 (.loop (.seq (.seq (.region 1 (Ze3 bi_root [0, 0, 0, 0, 1]).toArray false) (.cond (.tmp 8) .skip (.exit 0)))
  (.seq (.block 1 (.seq (.region 3 ((Ze3 bi_root [0, 0, 0, 1, 0, 0, 1]).take 6 ++ [bi_oc, bi_on]).toArray false) (.cond (.tmp 18) .ret .skip))) (.region 2 (Ze3 bi_root [1, 1, 0, 0, 1]).toArray false))))) := by kernel_rfl
theorem Zg1 {env : List (Nat × AV)} : ∀ (small : List (Nat × AV)), (∀ p ∈ small, envGet small p.1 = envGet env p.1) → St.le ⟨env, []⟩ ⟨small, []⟩ := by
 intro small h
 refine ⟨rfl, fun i => ?_⟩
 by_cases hi : ∃ p ∈ small, p.1 = i
 ·obtain ⟨p, hp, rfl⟩ := hi
  show AV.le (envGet env p.1) (envGet small p.1)
  rw [h p hp]; exact .refl _
 ·have : ∀ l : List (Nat × AV), (¬ ∃ p ∈ l, p.1 = i) → envGet l i = .any := by
   intro l
   induction l with
   | nil => exact fun _ => rfl
   | cons q r ih =>
    intro h
    simp only [envGet]
    rw [if_neg (fun e => h ⟨q, List.mem_cons_self .., e.symm⟩)]
    exact ih (fun ⟨p, hp, e⟩ => h ⟨p, List.mem_cons_of_mem _ hp, e⟩)
  show AV.le (envGet env i) (envGet small i)
  rw [this small hi]; exact .any _
theorem back141 : BackIter Tryz.prog 141 7 elB := by
 refine BackIter.of (T := T) (n := 19) (root := bi_root) tabOK (enters_of (c := bi_root) Tryz.func141 (by kernel_rfl) (by kernel_rfl)) Tryz.func141 (by kernel_rfl) (by kernel_rfl) (by kernel_rfl) (by omega) (i0 := 0) (i1 := 1) (i2 := 2) (i3 := 3) (b0 := 0) (b1 := 1) (by omega) bi_shape (ts := #[3, 34]) (by kernel_rfl) (by kernel_rfl) (by kernel_rfl) (by kernel_rfl) (by kernel_rfl) (by kernel_rfl) (by kernel_rfl) (by kernel_rfl) ?_ ?_ ?_ ?_ ?_
 ·intro yv es hb
  refine ⟨_, ⟨[(3, .v (.int .i64 (IntKind.i64.wrap ((es.length : Int) - 1)))), (6, .v (.int .i64 (IntKind.i64.wrap ((es.length : Int) - 1)))), (5, .v (.int .i64 (es.length : Int))), (4, .ro 7 es), (1, .rp [.ro 7 es]), (0, .v yv)], []⟩, rfl, by simp [ti22, TK.agg], ?_⟩
  rw [IntWalk.i64_in _ (by omega)]
  exact Zg1 _ (by simp [envGet])
 ·intro yv es k
  refine ⟨_, ⟨[(8, .v (.bool (decide (0 ≤ k)))), (7, .v (.int .i64 k)), (3, .v (.int .i64 k)), (1, .rp [.ro 7 es]), (0, .v yv)], []⟩, rfl, by simp, ?_⟩
  exact Zg1 _ (by simp [envGet])
 ·intro yv es k cs hk hc
  refine ⟨_, ⟨[(16, Z19 ti34 (getRow es ((k : Int).toNat))), (15, .rp (getRow es ((k : Int).toNat))), (14, .v (.int .i64 (k : Int))), (13, .ro 7 es), (12, .v (.int .i64 (k : Int))), (11, .v yv), (3, .v (.int .i64 (k : Int))), (1, .rp [.ro 7 es]), (0, .v yv)], []⟩, rfl, ?_, ?_⟩
  ·have h1 : getRow es k = cs := by simp [getRow, hk]
   have hkl := (List.getElem?_eq_some_iff.1 hk).1
   simp [ti22, ti34, TK.agg, h1, hc]
   omega
  ·have h1 : getRow es k = cs := by simp [getRow, hk]
   rw [Int.toNat_natCast, h1]
   exact Zg1 _ (by simp [envGet, elB])
 ·intro yv es k b
  refine ⟨_, ⟨[(18, .v (.bool !b)), (17, .v (.bool b)), (3, .v (.int .i64 k)), (1, .rp [.ro 7 es]), (0, .v yv)], []⟩, rfl, by simp, ?_⟩
  exact Zg1 _ (by simp [envGet])
 ·intro yv es k hb hk
  refine ⟨_, ⟨[(3, .v (.int .i64 (IntKind.i64.wrap ((k : Int) - 1)))), (10, .v (.int .i64 (IntKind.i64.wrap ((k : Int) - 1)))), (9, .v (.int .i64 (k : Int))), (3, .v (.int .i64 (k : Int))), (1, .rp [.ro 7 es]), (0, .v yv)], []⟩, rfl, by simp, ?_⟩
  rw [IntWalk.i64_in _ (by omega)]
  exact Zg1 _ (by simp [envGet])
theorem Ziy (x : ClB.den) : elB (ClB.cells x) = ClB.av x := by
 obtain ⟨a, b, c, d, e, f, g⟩ := x
 rfl
end Go.Proofs.YtahlodpolggeiaaGreatDoor
