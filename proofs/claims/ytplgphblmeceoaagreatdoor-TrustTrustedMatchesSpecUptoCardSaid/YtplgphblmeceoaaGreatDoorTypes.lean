/-
  The types of this seat's program, as a table. No condition.
-/
import Derived.Test.YtplgphblmeceoaaGreatDoorTypC
import Derived.Shelf.SlIter.Nil
import Derived.Test.YtplgphblmeceoaaGreatDoorTab
import Derived.Shelf.LaysM
import Derived.Shelf.Strconv.Itoa3
import Derived.Shelf.Strconv.Atoi
import Derived.Shelf.Strings.OnBuilder
import Derived.Shelf.Strings.Repeat
import Derived.Shelf.SlSorted.Search
import Derived.WalkKit
import Derived.Ground.NamesProg
import Derived.Shelf.Small.Strs
import Derived.Shelf.Strings.Search2
import Derived.Shelf.Strings.Count
import Derived.Shelf.Slices.Reverse
import Derived.Shelf.Strings.SlTrimAscii
import Derived.Shelf.GgClosure.StringsRunes
import Derived.Ground.GgwProg
import Derived.Shelf.Sort.Plain
import Derived.Shelf.Sort.AssemblysIn
import Derived.Shelf.Slices.CompactS
import Derived.Shelf.Slices.In.SortNone
import Derived.Shelf.SortM.Plain
import Derived.Shelf.SortM.SortNone
import Derived.Ground.GgzProg
import Derived.Ground.SlgmProg
set_option linter.unusedVariables false
set_option linter.unusedSimpArgs false
namespace Go.Proofs.YtplgphblmeceoaaGreatDoor.Eng
open Go Go.RowKit
def Z2w (es : List (ByteArray × Value)) : List (List UInt8) := es.map fun p => p.1.data.toList
theorem Z8r {es : List (ByteArray × Value)} (h : MUp es) : (Z2w es).Pairwise (fun x y => x ≤ y) := by
 unfold Z2w
 rw [List.pairwise_map]
 exact h.imp fun {p q} hpq => List.le_of_lt (of_decide_eq_true hpq)
theorem Zfw {es : List (ByteArray × Value)} (h : MUp es) {ss : List (List UInt8)} (hp : List.Perm ss (Z2w es)) : ss.mergeSort (fun x y => decide (x ≤ y)) = Z2w es := by
 have h1 : (ss.mergeSort (fun x y => decide (x ≤ y))).Pairwise (fun x y => x ≤ y) := by
  have := List.pairwise_mergeSort (le := fun x y : List UInt8 => decide (x ≤ y)) (fun a b c h1 h2 => decide_eq_true (List.le_trans (of_decide_eq_true h1) (of_decide_eq_true h2))) (fun a b => by
   rcases List.le_total a b with h | h
   ·simp [h]
   ·simp [h]) ss
  exact this.imp fun {a b} h => of_decide_eq_true h
 exact List.Perm.eq_of_pairwise (fun a b _ _ h1 h2 => List.le_antisymm h1 h2) h1 (Z8r h) ((List.mergeSort_perm _ _).trans hp)
section
variable {P : Program}
def anyR : Value → Option (DataW Unit × List MemPlace) := fun _ => some (.lit (.bool false), [])
theorem Zk1 {kt : TypeId} (hk : P.underlying kt = some .string) {x : MapEntry} {b : ByteArray} (hx : x.key = .string b) (hs : b.size ≤ maxLen) : WideElems.rg P kt anyR x = (.string b.data.toList, .lit (.bool false)) ∧ ∃ y, WideElems.rd P kt anyR x = some y := by
 have h : WideElems.rd P kt anyR x = some (.string b.data.toList, .lit (.bool false)) := by
  unfold WideElems.rd
  rw [hx, WideMaps.keyOf_string_mk hk hs]
  rfl
 exact ⟨by unfold WideElems.rg; rw [h]; rfl, _, h⟩
theorem Ziw {kt : TypeId} (hk : P.underlying kt = some .string) {w : World} {m : Nat} {arr : Array MapEntry} {clock : Nat} {es : List (ByteArray × Value)} (hm : w.heap[m]? = some (.map arr clock)) (hi : MapIs arr clock es) (hsz : ∀ p ∈ es, p.1.size ≤ maxLen) (hlen : es.length ≤ maxLen) :
  ∃ D0 : DataW Unit, w.ownsMap P kt anyR m arr.size D0 ∧ Maps.size D0 = es.length ∧ List.Perm (strKeys D0) (Z2w es) := by
 obtain ⟨⟨es0, h1, h2⟩, h3, h4, h5⟩ := hi
 have hkey : ∀ x ∈ arr.toList, ∃ p ∈ es0, x.key = .string p.1 := fun x hx => by
  have : Z40 x ∈ es0.map pairK := by rw [← h1]; exact List.mem_map_of_mem hx
  obtain ⟨p, hp, e⟩ := List.mem_map.1 this
  simp only [Z40, pairK, Prod.mk.injEq] at e
  exact ⟨p, hp, e.1.symm⟩
 have hsz0 : arr.size = es.length := by
  have := congrArg List.length h1
  rw [List.length_map, List.length_map] at this
  rw [← Array.length_toList, this]
  exact h2.length_eq
 have F : WideElems.Fit P kt anyR arr clock := by
  refine ⟨by rw [hsz0]; exact hlen, ⟨h5, h4, ?_⟩, fun x hx => ?_⟩
  ·have e1 : arr.toList.map (·.key) = es0.map fun p => Value.string p.1 := by
    have := congrArg (List.map Prod.fst) h1
    rw [List.map_map, List.map_map] at this
    exact this
   rw [e1]
   have hn : (es0.map (·.1)).Nodup := (h2.map _).nodup_iff.2 h3.nodup
   have e2 : (es0.map fun p => Value.string p.1) = (es0.map (·.1)).map Value.string := by rw [List.map_map]; rfl
   rw [e2]
   exact List.Pairwise.map _ (fun a b h e => h (by injection e)) hn
  ·obtain ⟨p, hp, e⟩ := hkey x hx
   exact (Zk1 hk e (hsz p (h2.mem_iff.1 hp))).2
 refine ⟨_, World.ownsMap_of_fit hm F (fun _ _ _ h => h), ?_, ?_⟩
 ·rw [Maps.size_eq, (WideShapes.sorted_perm _).length_eq, List.length_map, Array.length_toList, hsz0]
 ·show List.Perm (List.map (fun p : Lit × DataW Unit => strOf p.1) _) _
  refine ((WideShapes.sorted_perm _).map _).trans ?_
  rw [List.map_map]
  have e3 : arr.toList.map ((fun p : Lit × DataW Unit => strOf p.1) ∘ WideElems.rg P kt anyR) = Z2w es0 := by
   have e4 : arr.toList.map ((fun p : Lit × DataW Unit => strOf p.1) ∘ WideElems.rg P kt anyR) = (arr.toList.map Z40).map fun q => (match q.1 with | .string b => b.data.toList | _ => []) := by
    rw [List.map_map]
    refine List.map_congr_left fun x hx => ?_
    obtain ⟨p, hp, e⟩ := hkey x hx
    show strOf (WideElems.rg P kt anyR x).1 = match x.key with | .string b => b.data.toList | _ => []
    rw [(Zk1 hk e (hsz p (h2.mem_iff.1 hp))).1, e]
    rfl
   rw [e4, h1, List.map_map]
   rfl
  rw [e3]
  exact h2.map _
theorem FPure.ofKeys {f fI : Nat} {mt : TypeId} {es : List (ByteArray × Value)} (h : ∀ (mb : Option Nat) (w : World), Calls P f #[.map mb] w fun e w' => e = .returned (.func (.func fI) #[] #[.pointer (some ⟨w.heap.size, 0, none⟩)]) ∧ w' = w.alloc (.cells #[.map mb] mt)) :
  FPure P f [.mp es] (.fn fI [.mq es]) := by
 intro σ F w vs hr hl hv
 obtain ⟨v0, rfl⟩ : ∃ v0, vs = [v0] := by
  match vs, hl with
  | [v0], _ => exact ⟨v0, rfl⟩
 have h0 : RepF F w (.mp es) v0 := by
  cases hv 0 _ v0 rfl rfl with
  | f _ _ h => exact h
 have hno : ∀ id g, ¬ hasB σ id g := fun id g h => by
  obtain ⟨k, h, _⟩ := h
  rw [hr.out id (Nat.zero_le _)] at h; cases h
 obtain ⟨mb, rfl⟩ : ∃ mb, v0 = .map mb := by
  cases h0 with
  | mp0 => exact ⟨none, rfl⟩
  | mp _ g => exact ⟨some g, rfl⟩
 refine (h mb w).mono ?_
 rintro e w' ⟨rfl, rfl⟩
 have hblk : ∀ b, b < w.heap.size → (w.alloc (.cells #[.map mb] mt)).heap[b]? = w.heap[b]? := fun b hb => (MapKept.heap_alloc w _).2 b hb
 have hRF : RepF (fun b => F b ∨ b = w.heap.size) (w.alloc (.cells #[.map mb] mt)) (.mp es) (.map mb) := h0.mono (fun _ h => .inl h) (fun b hb => hblk b (hr.flt b hb))
 have hcell : (w.alloc (.cells #[.map mb] mt)).cell? ⟨w.heap.size, 0, none⟩ = some (.map mb) := by
  have e := (MapKept.heap_alloc w (.cells #[.map mb] mt)).1
  unfold World.cell?
  simp only [e]
  rfl
 refine ⟨_, [], σ, fun b => F b ∨ b = w.heap.size, _, ⟨rfl, rfl⟩, rfl, .f _ _ (.fn fI [.mq es] [.pointer (some ⟨w.heap.size, 0, none⟩)] rfl (fun j x u hx hu => ?_)), ⟨fun id o ho => by simp at ho, hr.out, hr.inj, fun id g h => absurd h (hno id g), fun b hb => ?_, hr.lay.mono (fun _ h => .inl h) (fun b hb => hblk b (hr.flt b hb))⟩,
  ⟨rfl, rfl, rfl, by simp, fun b hb _ => hblk b hb⟩, fun id g h => absurd h (hno id g), fun b h => ?_, fun id h => absurd h (Nat.not_lt_zero _), Nat.le_refl _⟩
 ·match j with
  | 0 => simp at hx hu; subst hx hu; exact .mq es _ _ (.inr rfl) hcell hRF
  | j + 1 => simp at hx
 ·rcases hb with hb | rfl
  ·have := hr.flt b hb; simp; omega
  ·simp
 ·rcases h with h | rfl
  ·exact .inl h
  ·exact .inr (.inr (Nat.le_refl _))
theorem FPure.ofSorted {f fI : Nat} {kt : TypeId} (hk : P.underlying kt = some .string) {es : List (ByteArray × Value)} (hsz : ∀ p ∈ es, p.1.size ≤ maxLen) (hlen : es.length ≤ 1000000000)
  (h1 : ∀ (b nn : Nat) (D0 : DataW Unit) (g : Nat) (w : World), g < w.heap.size → w.cell? ⟨g, 0, none⟩ = some (.map (some b)) → w.ownsMap P kt anyR b nn D0 → Maps.size D0 ≤ maxLen → Maps.size D0 * 16 ≤ 140737488355328 →
   Calls P f #[.func (.func fI) #[] #[.pointer (some ⟨g, 0, none⟩)]] w fun e w' => ∃ (v : Value) (ss : List (List UInt8)), e = .returned v ∧ ss.Perm (strKeys D0) ∧ w'.ownsRow w.heap.size kt 1 v ss.length ((ss.mergeSort (fun x y => decide (x ≤ y))).map encStr) ∧ (v = .slice none 0 0 ↔ ss = []) ∧ Below w.heap.size w w')
  (h0 : ∀ (g : Nat) (w : World), g < w.heap.size → w.cell? ⟨g, 0, none⟩ = some (.map none) →
   Calls P f #[.func (.func fI) #[] #[.pointer (some ⟨g, 0, none⟩)]] w fun e w' => ∃ (v : Value) (ss : List (List UInt8)), e = .returned v ∧ ss = [] ∧ w'.ownsRow w.heap.size kt 1 v ss.length ((ss.mergeSort (fun x y => decide (x ≤ y))).map encStr) ∧ (v = .slice none 0 0 ↔ ss = []) ∧ Below w.heap.size w w') :
  FPure P f [.fn fI [.mq es]] (.ro 1 ((es.map (·.1)).map fun b => [.v (.string b)])) := by
 intro σ F w vs hr hl hv
 have hno : ∀ id g, ¬ hasB σ id g := fun id g h => by
  obtain ⟨k, h, _⟩ := h
  rw [hr.out id (Nat.zero_le _)] at h; cases h
 obtain ⟨v0, rfl⟩ : ∃ v0, vs = [v0] := by
  match vs, hl with
  | [v0], _ => exact ⟨v0, rfl⟩
 obtain ⟨us, rfl, hul, hus⟩ := RepV.fnv (hv 0 _ v0 rfl rfl)
 obtain ⟨u, rfl⟩ : ∃ u, us = [u] := by
  match us, hul with
  | [u], _ => exact ⟨u, rfl⟩
 have hu : RepF F w (.mq es) u := by
  cases hus 0 _ u rfl rfl with
  | f _ _ h => exact h
 have hmax : (1000000000 : Nat) ≤ maxLen := by decide
 cases hu with
 | mq _ g v hF hc hmp =>
  have hgl := hr.flt g hF
  have fin : Calls P f #[.func (.func fI) #[] #[.pointer (some ⟨g, 0, none⟩)]] w (fun e w' => ∃ (v : Value) (ss : List (List UInt8)), e = .returned v ∧ ss.Perm (Z2w es) ∧ w'.ownsRow w.heap.size kt 1 v ss.length ((ss.mergeSort (fun x y => decide (x ≤ y))).map encStr) ∧ Below w.heap.size w w') → MUp es →
    Calls P f [Value.func (.func fI) #[] [Value.pointer (some ⟨g, 0, none⟩)].toArray].toArray w fun e w' => ∃ ret h' σ' F' rv, (ret = AV.ro 1 ((es.map (·.1)).map fun b => [.v (.string b)]) ∧ h' = []) ∧ e = .returned rv ∧ RepV σ' F' w' ret rv ∧ HRep σ' F' w' h' ∧ Keep (ownB σ) w w' ∧
     (∀ id g, hasB σ' id g → ownB σ g ∨ w.heap.size ≤ g) ∧ (∀ b, F' b → F b ∨ ownB σ b ∨ w.heap.size ≤ b) ∧ (∀ id, id < ([] : List AObj).length → σ' id = σ id ∨ σ' id = none) ∧ ([] : List AObj).length ≤ h'.length := by
   intro hcall hup
   refine Calls.mono hcall ?_
   rintro e w' ⟨rv, ss, rfl, hp, hrow, hb⟩
   rw [Zfw hup hp] at hrow
   have hn : ss.length = es.length := by rw [hp.length_eq]; simp [Z2w]
   have hkeep : Keep (ownB σ) w w' := ⟨hb.os, hb.tape, hb.output, hb.size, fun b hb' _ => hb.block b hb'⟩
   have hblk : ∀ b, F b → w'.heap[b]? = w.heap[b]? := fun b hb' => hb.block b (hr.flt b hb')
   have done : ∀ F' : Nat → Prop, (∀ b, F b → F' b) → (∀ b, F' b → F b ∨ (w.heap.size ≤ b ∧ b < w'.heap.size)) → RepF F' w' (.ro 1 ((es.map (·.1)).map fun b => [.v (.string b)])) rv → ∃ ret h' σ' F' rv', (ret = AV.ro 1 ((es.map (·.1)).map fun b => [.v (.string b)]) ∧ h' = []) ∧ Ending.returned rv = .returned rv' ∧ RepV σ' F' w' ret rv' ∧ HRep σ' F' w' h' ∧ Keep (ownB σ) w w' ∧
     (∀ id g, hasB σ' id g → ownB σ g ∨ w.heap.size ≤ g) ∧ (∀ b, F' b → F b ∨ ownB σ b ∨ w.heap.size ≤ b) ∧ (∀ id, id < ([] : List AObj).length → σ' id = σ id ∨ σ' id = none) ∧ ([] : List AObj).length ≤ h'.length :=
    fun F' k1 k2 k3 => ⟨_, [], σ, F', rv, ⟨rfl, rfl⟩, rfl, .f _ _ k3, ⟨fun id o ho => by simp at ho, hr.out, hr.inj, fun id g h => absurd h (hno id g), fun b hb' => by
     rcases k2 b hb' with h | h
     ·exact Nat.lt_of_lt_of_le (hr.flt b h) hb.size
     ·exact h.2, hr.lay.mono k1 hblk⟩, hkeep, fun id g h => absurd h (hno id g), fun b h => by
     rcases k2 b h with h | h
     ·exact .inl h
     ·exact .inr (.inr h.1), fun id h => absurd h (Nat.not_lt_zero _), Nat.le_refl _⟩
   obtain ⟨hxs, hrow⟩ := hrow
   rcases hrow with ⟨rfl, hz⟩ | ⟨g', cap, cur, rfl, hbase, hg', r1, r2, r3, r4⟩
   ·have hes : es = [] := List.eq_nil_of_length_eq_zero (hn.symm.trans hz)
    subst hes
    exact done F (fun _ h => h) (fun _ h => .inl h) (.nil0 1 0 none)
   ·have hg'l : g' < w'.heap.size := (Array.getElem?_eq_some_iff.1 hg').1
    refine done (fun b => F b ∨ b = g') (fun _ h => .inl h) (fun b h => h.imp id (fun e => by subst e; exact ⟨hbase, hg'l⟩)) ?_
    have hlen' : ((es.map (·.1)).map fun b => [AV.v (.string b)]).length = ss.length := by simp [hn]
    refine .ro 1 ss.length cap _ ⟨g', 0, none⟩ (fun i _ => .string (((es.map (·.1))[i]?).getD ByteArray.empty)) hlen' r1 (.inr rfl) (fun cs hcs => ?_) (fun i cs j x hi hj => ?_) (fun i cs j x hi hj => ?_)
    ·obtain ⟨b, _, rfl⟩ := List.mem_map.1 hcs; rfl
    ·rw [List.getElem?_map, Option.map_eq_some_iff] at hi
     obtain ⟨b, hb', rfl⟩ := hi
     have hj0 : j = 0 := by
      cases j with
      | zero => rfl
      | succ j => simp at hj
     subst hj0
     refine ⟨?_, rfl⟩
     rw [hb', Option.getD_some]
     have hil : i < es.length := by
      have := (List.getElem?_eq_some_iff.1 hb').1
      simpa using this
     have e1 : cur[i]? = some (Value.string b) := by
      rw [← Array.getElem?_toList]
      have e2 : (cur.toList.take (ss.length * 1))[i]? = some (Value.string b) := by
       rw [r4, List.getElem?_map]
       have e3 : (Z2w es)[i]? = some b.data.toList := by
        unfold Z2w
        have e4 : es.map (fun p => p.1.data.toList) = (es.map (·.1)).map fun b => b.data.toList := by rw [List.map_map]; rfl
        rw [e4, List.getElem?_map, hb']
        rfl
       rw [e3]
       show some (encStr b.data.toList) = _
       cases b; simp [encStr]
      rw [List.getElem?_take] at e2
      split at e2
      ·exact e2
      ·cases e2
     show w'.cell? (Addr.add ⟨g', 0, none⟩ (i * 1 + 0)) = _
     rw [Zq]
     unfold World.cell?
     simp only [hg']
     simpa using e1
    ·rw [List.getElem?_map, Option.map_eq_some_iff] at hi
     obtain ⟨b, hb', rfl⟩ := hi
     have hj0 : j = 0 := by
      cases j with
      | zero => rfl
      | succ j => simp at hj
     subst hj0
     simp at hj
     subst hj
     rw [hb', Option.getD_some]
     exact .v _
  cases hmp with
  | mp0 =>
   refine fin ((h0 g w hgl hc).mono ?_) List.Pairwise.nil
   rintro e w' ⟨v, ss, h2, rfl, h3, _, h4⟩
   exact ⟨v, [], h2, .refl _, h3, h4⟩
  | mp _ m arr clock hFm hm hi =>
   obtain ⟨D0, d1, d2, d3⟩ := Ziw hk hm hi hsz (Nat.le_trans hlen hmax)
   refine fin ((h1 m arr.size D0 g w hgl hc d1 (by rw [d2]; exact Nat.le_trans hlen hmax) (by rw [d2]; omega)).mono ?_) hi.2.1
   rintro e w' ⟨v, ss, h2, h3, h4, _, h5⟩
   exact ⟨v, ss, h2, h3.trans d3, h4, h5⟩
end
end Go.Proofs.YtplgphblmeceoaaGreatDoor.Eng
set_option linter.unusedVariables false
set_option maxRecDepth 100000
namespace Go.Proofs
open Go.Shelf
def Tryz.lays106_ren : Go.Shelf.Ren := ⟨fun | 106 => 69 | 213 => 88 | 265 => 113 | n => n, fun | 9 => 9 | 3 => 3 | n => n, fun | n => n⟩
theorem Tryz.lays106 : Go.Proofs.Lays.n106 Tryz.prog Tryz.lays106_ren := {
 mixed := by kernel_rfl
 f106 := Tryz.func69.trans (congrArg some (by kernel_rfl))
 f213 := Tryz.func88.trans (congrArg some (by kernel_rfl))
 f265 := Tryz.func113.trans (congrArg some (by kernel_rfl))
 t3 := Tryz.underlying3
 a3 := Tryz.isAgg3
 z3 := Tryz.sizeOf3
 v3 := Tryz.zeroValue3
 t9 := Tryz.underlying9
 a9 := Tryz.isAgg9
 z9 := Tryz.sizeOf9
 v9 := Tryz.zeroValue9 }
def Tryz.lays217_ren : Go.Shelf.Ren := ⟨fun | 217 => 146 | 266 => 158 | n => n, fun | 9 => 9 | 5 => 5 | 3 => 3 | n => n, fun | n => n⟩
theorem Tryz.lays217 : Go.Proofs.Lays.n217 Tryz.prog Tryz.lays217_ren := {
 mixed := by kernel_rfl
 f217 := Tryz.func146.trans (congrArg some (by kernel_rfl))
 f266 := Tryz.func158.trans (congrArg some (by kernel_rfl))
 t3 := Tryz.underlying3
 a3 := Tryz.isAgg3
 z3 := Tryz.sizeOf3
 v3 := Tryz.zeroValue3
 t5 := Tryz.underlying5
 a5 := Tryz.isAgg5
 z5 := Tryz.sizeOf5
 v5 := Tryz.zeroValue5
 t9 := Tryz.underlying9
 a9 := Tryz.isAgg9
 z9 := Tryz.sizeOf9
 v9 := Tryz.zeroValue9 }
def Tryz.lays219_ren : Go.Shelf.Ren := ⟨fun | 219 => 144 | 217 => 146 | 225 => 134 | 224 => 133 | 267 => 157 | 266 => 158 | 314 => 167 | n => n, fun | 9 => 9 | 3 => 3 | 4 => 4 | 5 => 5 | 46 => 100 | 146 => 175 | 51 => 124 | n => n, fun | 1 => 0 | n => n⟩
theorem Tryz.lays219 : Go.Proofs.Lays.n219 Tryz.prog Tryz.lays219_ren := {
 mixed := by kernel_rfl
 f217 := Tryz.func146.trans (congrArg some (by kernel_rfl))
 f219 := Tryz.func144.trans (congrArg some (by kernel_rfl))
 f224 := Tryz.func133.trans (congrArg some (by kernel_rfl))
 f225 := Tryz.func134.trans (congrArg some (by kernel_rfl))
 f266 := Tryz.func158.trans (congrArg some (by kernel_rfl))
 f267 := Tryz.func157.trans (congrArg some (by kernel_rfl))
 f314 := Tryz.func167.trans (congrArg some (by kernel_rfl))
 t3 := Tryz.underlying3
 a3 := Tryz.isAgg3
 z3 := Tryz.sizeOf3
 v3 := Tryz.zeroValue3
 t4 := Tryz.underlying4
 a4 := Tryz.isAgg4
 z4 := Tryz.sizeOf4
 v4 := Tryz.zeroValue4
 t5 := Tryz.underlying5
 a5 := Tryz.isAgg5
 z5 := Tryz.sizeOf5
 v5 := Tryz.zeroValue5
 t9 := Tryz.underlying9
 a9 := Tryz.isAgg9
 z9 := Tryz.sizeOf9
 v9 := Tryz.zeroValue9
 t46 := Tryz.underlying100
 a46 := Tryz.isAgg100
 z46 := Tryz.sizeOf100
 v46 := Tryz.zeroValue100
 t51 := Tryz.underlying124
 a51 := Tryz.isAgg124
 z51 := Tryz.sizeOf124
 v51 := Tryz.zeroValue124
 t146 := Tryz.underlying175
 a146 := Tryz.isAgg175
 z146 := Tryz.sizeOf175
 v146 := Tryz.zeroValue175
 g1 := by kernel_rfl }
def Tryz.lays138_ren : Go.Shelf.Ren := ⟨fun | 138 => 155 | 195 => 165 | 218 => 166 | 143 => 156 | 219 => 144 | 217 => 146 | 225 => 134 | 224 => 133 | 267 => 157 | 266 => 158 | 314 => 167 | n => n, fun | 9 => 9 | 3 => 3 | 4 => 4 | 5 => 5 | 0 => 0 | 46 => 100 | 146 => 175 | 51 => 124 | n => n, fun | 1 => 0 | n => n⟩
theorem Tryz.lays138 : Go.Proofs.Lays.n138 Tryz.prog Tryz.lays138_ren := {
 mixed := by kernel_rfl
 f138 := Tryz.func155.trans (congrArg some (by kernel_rfl))
 f143 := Tryz.func156.trans (congrArg some (by kernel_rfl))
 f195 := Tryz.func165.trans (congrArg some (by kernel_rfl))
 f217 := Tryz.func146.trans (congrArg some (by kernel_rfl))
 f218 := Tryz.func166.trans (congrArg some (by kernel_rfl))
 f219 := Tryz.func144.trans (congrArg some (by kernel_rfl))
 f224 := Tryz.func133.trans (congrArg some (by kernel_rfl))
 f225 := Tryz.func134.trans (congrArg some (by kernel_rfl))
 f266 := Tryz.func158.trans (congrArg some (by kernel_rfl))
 f267 := Tryz.func157.trans (congrArg some (by kernel_rfl))
 f314 := Tryz.func167.trans (congrArg some (by kernel_rfl))
 t0 := Tryz.underlying0
 a0 := Tryz.isAgg0
 z0 := Tryz.sizeOf0
 v0 := Tryz.zeroValue0
 t3 := Tryz.underlying3
 a3 := Tryz.isAgg3
 z3 := Tryz.sizeOf3
 v3 := Tryz.zeroValue3
 t4 := Tryz.underlying4
 a4 := Tryz.isAgg4
 z4 := Tryz.sizeOf4
 v4 := Tryz.zeroValue4
 t5 := Tryz.underlying5
 a5 := Tryz.isAgg5
 z5 := Tryz.sizeOf5
 v5 := Tryz.zeroValue5
 t9 := Tryz.underlying9
 a9 := Tryz.isAgg9
 z9 := Tryz.sizeOf9
 v9 := Tryz.zeroValue9
 t46 := Tryz.underlying100
 a46 := Tryz.isAgg100
 z46 := Tryz.sizeOf100
 v46 := Tryz.zeroValue100
 t51 := Tryz.underlying124
 a51 := Tryz.isAgg124
 z51 := Tryz.sizeOf124
 v51 := Tryz.zeroValue124
 t146 := Tryz.underlying175
 a146 := Tryz.isAgg175
 z146 := Tryz.sizeOf175
 v146 := Tryz.zeroValue175
 g1 := by kernel_rfl }
def Tryz.lays160_ren : Go.Shelf.Ren := ⟨fun | 160 => 33 | 232 => 60 | 231 => 59 | 227 => 61 | 234 => 63 | 233 => 62 | 236 => 65 | 235 => 64 | 228 => 84 | 271 => 87 | 151 => 86 | 197 => 85 | 120 => 112 | 152 => 111 | 260 => 110 | 137 => 131 | 119 => 132 | 224 => 133 | 225 => 134 | 217 => 146 | 266 => 158 | n => n, fun | 9 => 9 | 4 => 4 | 3 => 3 | 5 => 5 | 117 => 87 | 116 => 86 | 0 => 0 | 124 => 90 | 21 => 21 | 105 => 110 | 46 => 100 | 119 => 151 | 139 => 154 | 138 => 153 | n => n, fun | 3 => 1 | 4 => 2 | n => n⟩
theorem Tryz.lays160 : Go.Proofs.Lays.n160 Tryz.prog Tryz.lays160_ren := {
 mixed := by kernel_rfl
 f119 := Tryz.func132.trans (congrArg some (by kernel_rfl))
 f120 := Tryz.func112.trans (congrArg some (by kernel_rfl))
 f137 := Tryz.func131.trans (congrArg some (by kernel_rfl))
 f151 := Tryz.func86.trans (congrArg some (by kernel_rfl))
 f152 := Tryz.func111.trans (congrArg some (by kernel_rfl))
 f160 := Tryz.func33.trans (congrArg some (by kernel_rfl))
 f197 := Tryz.func85.trans (congrArg some (by kernel_rfl))
 f217 := Tryz.func146.trans (congrArg some (by kernel_rfl))
 f224 := Tryz.func133.trans (congrArg some (by kernel_rfl))
 f225 := Tryz.func134.trans (congrArg some (by kernel_rfl))
 f227 := Tryz.func61.trans (congrArg some (by kernel_rfl))
 f228 := Tryz.func84.trans (congrArg some (by kernel_rfl))
 f231 := Tryz.func59.trans (congrArg some (by kernel_rfl))
 f232 := Tryz.func60.trans (congrArg some (by kernel_rfl))
 f233 := Tryz.func62.trans (congrArg some (by kernel_rfl))
 f234 := Tryz.func63.trans (congrArg some (by kernel_rfl))
 f235 := Tryz.func64.trans (congrArg some (by kernel_rfl))
 f236 := Tryz.func65.trans (congrArg some (by kernel_rfl))
 f260 := Tryz.func110.trans (congrArg some (by kernel_rfl))
 f266 := Tryz.func158.trans (congrArg some (by kernel_rfl))
 f271 := Tryz.func87.trans (congrArg some (by kernel_rfl))
 t0 := Tryz.underlying0
 a0 := Tryz.isAgg0
 z0 := Tryz.sizeOf0
 v0 := Tryz.zeroValue0
 t3 := Tryz.underlying3
 a3 := Tryz.isAgg3
 z3 := Tryz.sizeOf3
 v3 := Tryz.zeroValue3
 t4 := Tryz.underlying4
 a4 := Tryz.isAgg4
 z4 := Tryz.sizeOf4
 v4 := Tryz.zeroValue4
 t5 := Tryz.underlying5
 a5 := Tryz.isAgg5
 z5 := Tryz.sizeOf5
 v5 := Tryz.zeroValue5
 t9 := Tryz.underlying9
 a9 := Tryz.isAgg9
 z9 := Tryz.sizeOf9
 v9 := Tryz.zeroValue9
 t21 := Tryz.underlying21
 a21 := Tryz.isAgg21
 z21 := Tryz.sizeOf21
 v21 := Tryz.zeroValue21
 t46 := Tryz.underlying100
 a46 := Tryz.isAgg100
 z46 := Tryz.sizeOf100
 v46 := Tryz.zeroValue100
 t105 := Tryz.underlying110
 a105 := Tryz.isAgg110
 z105 := Tryz.sizeOf110
 v105 := Tryz.zeroValue110
 t116 := Tryz.underlying86
 a116 := Tryz.isAgg86
 z116 := Tryz.sizeOf86
 t117 := Tryz.underlying87
 a117 := Tryz.isAgg87
 z117 := Tryz.sizeOf87
 v117 := Tryz.zeroValue87
 t119 := Tryz.underlying151
 a119 := Tryz.isAgg151
 z119 := Tryz.sizeOf151
 t124 := Tryz.underlying90
 a124 := Tryz.isAgg90
 z124 := Tryz.sizeOf90
 v124 := Tryz.zeroValue90
 t138 := Tryz.underlying153
 a138 := Tryz.isAgg153
 z138 := Tryz.sizeOf153
 v138 := Tryz.zeroValue153
 t139 := Tryz.underlying154
 a139 := Tryz.isAgg154
 z139 := Tryz.sizeOf154
 v139 := Tryz.zeroValue154
 g3 := by kernel_rfl
 g4 := by kernel_rfl }
def Tryz.lays156_ren : Go.Shelf.Ren := ⟨fun | 156 => 89 | 165 => 114 | 166 => 115 | 169 => 116 | 240 => 135 | 241 => 136 | 276 => 147 | 277 => 148 | n => n, fun | 31 => 38 | 9 => 9 | 3 => 3 | 4 => 4 | 0 => 0 | 20 => 20 | 72 => 135 | 76 => 139 | 70 => 133 | 37 => 96 | 75 => 138 | 127 => 156 | 164 => 162 | 5 => 5 | 80 => 141 | n => n, fun | n => n⟩
theorem Tryz.lays156 : Go.Proofs.Lays.n156 Tryz.prog Tryz.lays156_ren := {
 mixed := by kernel_rfl
 f156 := Tryz.func89.trans (congrArg some (by kernel_rfl))
 f165 := Tryz.func114.trans (congrArg some (by kernel_rfl))
 f166 := Tryz.func115.trans (congrArg some (by kernel_rfl))
 f169 := Tryz.func116.trans (congrArg some (by kernel_rfl))
 f240 := Tryz.func135.trans (congrArg some (by kernel_rfl))
 f241 := Tryz.func136.trans (congrArg some (by kernel_rfl))
 f276 := Tryz.func147.trans (congrArg some (by kernel_rfl))
 f277 := Tryz.func148.trans (congrArg some (by kernel_rfl))
 t0 := Tryz.underlying0
 a0 := Tryz.isAgg0
 z0 := Tryz.sizeOf0
 v0 := Tryz.zeroValue0
 t3 := Tryz.underlying3
 a3 := Tryz.isAgg3
 z3 := Tryz.sizeOf3
 v3 := Tryz.zeroValue3
 t4 := Tryz.underlying4
 a4 := Tryz.isAgg4
 z4 := Tryz.sizeOf4
 v4 := Tryz.zeroValue4
 t9 := Tryz.underlying9
 a9 := Tryz.isAgg9
 z9 := Tryz.sizeOf9
 v9 := Tryz.zeroValue9
 t20 := Tryz.underlying20
 a20 := Tryz.isAgg20
 z20 := Tryz.sizeOf20
 v20 := Tryz.zeroValue20
 t31 := Tryz.underlying38
 a31 := Tryz.isAgg38
 z31 := Tryz.sizeOf38
 v31 := Tryz.zeroValue38
 t37 := Tryz.underlying96
 a37 := Tryz.isAgg96
 z37 := Tryz.sizeOf96
 v37 := Tryz.zeroValue96
 t70 := Tryz.underlying133
 a70 := Tryz.isAgg133
 z70 := Tryz.sizeOf133
 v70 := Tryz.zeroValue133
 t72 := Tryz.underlying135
 a72 := Tryz.isAgg135
 z72 := Tryz.sizeOf135
 v72 := Tryz.zeroValue135
 t75 := Tryz.underlying138
 a75 := Tryz.isAgg138
 z75 := Tryz.sizeOf138
 v75 := Tryz.zeroValue138
 t76 := Tryz.underlying139
 a76 := Tryz.isAgg139
 z76 := Tryz.sizeOf139
 v76 := Tryz.zeroValue139
 t127 := Tryz.underlying156
 a127 := Tryz.isAgg156
 z127 := Tryz.sizeOf156
 v127 := Tryz.zeroValue156
 t164 := Tryz.underlying162
 a164 := Tryz.isAgg162
 z164 := Tryz.sizeOf162
 v164 := Tryz.zeroValue162 }
def Tryz.laysM171_ren : Go.Shelf.Ren := ⟨fun | 171 => 90 | 243 => 117 | 246 => 137 | 283 => 149 | 284 => 150 | 285 => 151 | 286 => 152 | 129 => 102 | 317 => 159 | 318 => 160 | 319 => 161 | 320 => 162 | 337 => 168 | 338 => 169 | n => n, fun | 3 => 3 | 9 => 9 | 2 => 2 | 4 => 4 | 171 => 165 | 0 => 0 | 53 => 113 | 37 => 96 | 5 => 5 | 173 => 167 | 212 => 171 | 51 => 124 | 20 => 20 | 213 => 172 | 46 => 100 | 232 => 177 | 233 => 178 | n => n, fun | 17 => 3 | 18 => 4 | 19 => 5 | n => n⟩
theorem Tryz.laysM171 : Go.Proofs.LaysM.n171 Tryz.prog Tryz.laysM171_ren := {
 mixed := by kernel_rfl
 f129 := Tryz.func102.trans (congrArg some (by kernel_rfl))
 f171 := Tryz.func90.trans (congrArg some (by kernel_rfl))
 f243 := Tryz.func117.trans (congrArg some (by kernel_rfl))
 f246 := Tryz.func137.trans (congrArg some (by kernel_rfl))
 f283 := Tryz.func149.trans (congrArg some (by kernel_rfl))
 f284 := Tryz.func150.trans (congrArg some (by kernel_rfl))
 f285 := Tryz.func151.trans (congrArg some (by kernel_rfl))
 f286 := Tryz.func152.trans (congrArg some (by kernel_rfl))
 f317 := Tryz.func159.trans (congrArg some (by kernel_rfl))
 f318 := Tryz.func160.trans (congrArg some (by kernel_rfl))
 f319 := Tryz.func161.trans (congrArg some (by kernel_rfl))
 f320 := Tryz.func162.trans (congrArg some (by kernel_rfl))
 f337 := Tryz.func168.trans (congrArg some (by kernel_rfl))
 f338 := Tryz.func169.trans (congrArg some (by kernel_rfl))
 t0 := Tryz.underlying0
 a0 := Tryz.isAgg0
 z0 := Tryz.sizeOf0
 v0 := Tryz.zeroValue0
 t2 := Tryz.underlying2
 a2 := Tryz.isAgg2
 z2 := Tryz.sizeOf2
 v2 := Tryz.zeroValue2
 t3 := Tryz.underlying3
 a3 := Tryz.isAgg3
 z3 := Tryz.sizeOf3
 v3 := Tryz.zeroValue3
 t4 := Tryz.underlying4
 a4 := Tryz.isAgg4
 z4 := Tryz.sizeOf4
 v4 := Tryz.zeroValue4
 t5 := Tryz.underlying5
 a5 := Tryz.isAgg5
 z5 := Tryz.sizeOf5
 v5 := Tryz.zeroValue5
 t9 := Tryz.underlying9
 a9 := Tryz.isAgg9
 z9 := Tryz.sizeOf9
 v9 := Tryz.zeroValue9
 t20 := Tryz.underlying20
 a20 := Tryz.isAgg20
 z20 := Tryz.sizeOf20
 v20 := Tryz.zeroValue20
 t37 := Tryz.underlying96
 a37 := Tryz.isAgg96
 z37 := Tryz.sizeOf96
 v37 := Tryz.zeroValue96
 t46 := Tryz.underlying100
 a46 := Tryz.isAgg100
 z46 := Tryz.sizeOf100
 v46 := Tryz.zeroValue100
 t51 := Tryz.underlying124
 a51 := Tryz.isAgg124
 z51 := Tryz.sizeOf124
 v51 := Tryz.zeroValue124
 t53 := Tryz.underlying113
 a53 := Tryz.isAgg113
 z53 := Tryz.sizeOf113
 v53 := Tryz.zeroValue113
 t171 := Tryz.underlying165
 a171 := Tryz.isAgg165
 z171 := Tryz.sizeOf165
 v171 := Tryz.zeroValue165
 t173 := Tryz.underlying167
 a173 := Tryz.isAgg167
 z173 := Tryz.sizeOf167
 v173 := Tryz.zeroValue167
 t212 := Tryz.underlying171
 a212 := Tryz.isAgg171
 z212 := Tryz.sizeOf171
 v212 := Tryz.zeroValue171
 t213 := Tryz.underlying172
 a213 := Tryz.isAgg172
 z213 := Tryz.sizeOf172
 t232 := Tryz.underlying177
 a232 := Tryz.isAgg177
 z232 := Tryz.sizeOf177
 v232 := Tryz.zeroValue177
 t233 := Tryz.underlying178
 a233 := Tryz.isAgg178
 z233 := Tryz.sizeOf178
 v233 := Tryz.zeroValue178
 g17 := by kernel_rfl
 g18 := by kernel_rfl
 g19 := by kernel_rfl
 i0 := by kernel_rfl
 i2 := by kernel_rfl
 i3 := by kernel_rfl
 i4 := by kernel_rfl
 i5 := by kernel_rfl
 i9 := by kernel_rfl
 i20 := by kernel_rfl
 i37 := by kernel_rfl
 i46 := by kernel_rfl
 i51 := by kernel_rfl
 i53 := by kernel_rfl
 i171 := by kernel_rfl
 i173 := by kernel_rfl
 i212 := by kernel_rfl
 i232 := by kernel_rfl
 i233 := by kernel_rfl
 m17 := by kernel_rfl
 m18 := by kernel_rfl
 m19 := by kernel_rfl }
def Tryz.laysC17_ren : Go.Shelf.Ren := ⟨fun | 17 => 82 | 15 => 109 | 20 => 130 | n => n, fun | 9 => 9 | 23 => 108 | 4 => 4 | 3 => 3 | 0 => 0 | 21 => 21 | n => n, fun | n => n⟩
theorem Tryz.laysC17 : Go.Proofs.LaysGw.n17 Tryz.prog Tryz.laysC17_ren := {
 mixed := by kernel_rfl
 f15 := Tryz.func109.trans (congrArg some (by kernel_rfl))
 f17 := Tryz.func82.trans (congrArg some (by kernel_rfl))
 f20 := Tryz.func130.trans (congrArg some (by kernel_rfl))
 t0 := Tryz.underlying0
 a0 := Tryz.isAgg0
 z0 := Tryz.sizeOf0
 v0 := Tryz.zeroValue0
 i0 := by kernel_rfl
 t3 := Tryz.underlying3
 a3 := Tryz.isAgg3
 z3 := Tryz.sizeOf3
 v3 := Tryz.zeroValue3
 i3 := by kernel_rfl
 t4 := Tryz.underlying4
 a4 := Tryz.isAgg4
 z4 := Tryz.sizeOf4
 v4 := Tryz.zeroValue4
 i4 := by kernel_rfl
 t9 := Tryz.underlying9
 a9 := Tryz.isAgg9
 z9 := Tryz.sizeOf9
 v9 := Tryz.zeroValue9
 i9 := by kernel_rfl
 t21 := Tryz.underlying21
 a21 := Tryz.isAgg21
 z21 := Tryz.sizeOf21
 v21 := Tryz.zeroValue21
 i21 := by kernel_rfl
 t23 := Tryz.underlying108
 a23 := Tryz.isAgg108
 z23 := Tryz.sizeOf108
 v23 := Tryz.zeroValue108
 i23 := by kernel_rfl }
end Go.Proofs
namespace Go.Proofs.YtplgphblmeceoaaGreatDoor
open Go Go.RowKit Go.Shelf Go.Lib Go.Proofs.YtplgphblmeceoaaGreatDoor.Eng
noncomputable def Q32.f (a b : ByteArray) : Option Int := some (Lib.compareBytes a.data.toList b.data.toList)
noncomputable def Q32.fn : TFn := ⟨[.str, .str], [.int .i64], fun x => Q32.f x.1 x.2⟩
theorem Q32.ok : FnOK Tryz.prog 69 Q32.fn := by
 refine ⟨enters_of (c := Z6 Tryz.f69) Tryz.func69 (by kernel_rfl) (by kernel_rfl), ?_⟩
 rintro ⟨a, b⟩ r hr
 cases hr
 exact FPure.of_callsS (P := Tryz.prog) (f := 69) (args := [.string a, .string b]) (fun w => Any.strings_Compare Tryz.lays106 a b w)
noncomputable def Q2b.f (s : ByteArray) (c : UInt8) : Option Int := some (Lib.indexByte s.data.toList c)
noncomputable def Q2b.fn : TFn := ⟨[.str, .byte], [.int .i64], fun x => Q2b.f x.1 x.2⟩
theorem Q2b.ok : FnOK Tryz.prog 146 Q2b.fn := by
 refine ⟨enters_of (c := Z6 Tryz.f146) Tryz.func146 (by kernel_rfl) (by kernel_rfl), ?_⟩
 rintro ⟨s, c⟩ r hr
 cases hr
 refine FPure.of_callsS (P := Tryz.prog) (f := 146) (args := [.string s, .int .u8 (c.toNat : Int)]) (fun w => ?_)
 have h := Any.stringslite_IndexByte Tryz.lays217 s (c.toNat : Int) w
 have e : ((c.toNat : Int)).toNat.toUInt8 = c := by
  show UInt8.ofNat (c.toNat) = c
  exact UInt8.ofNat_toNat
 rw [e] at h
 exact h
noncomputable def Q1w.f (s sep : ByteArray) : Option Int := ck (sep.data.toList.length = 1) (some (Lib.indexByte s.data.toList (sep.data.toList.headD 0)))
noncomputable def Q1w.fn : TFn := ⟨[.str, .str], [.int .i64], fun x => Q1w.f x.1 x.2⟩
theorem Q1w.ok : FnOK Tryz.prog 144 Q1w.fn := by
 refine ⟨enters_of (c := Z6 Tryz.f144) Tryz.func144 (by kernel_rfl) (by kernel_rfl), ?_⟩
 rintro ⟨s, sep⟩ r hr
 obtain ⟨h1, h2⟩ := Z1u (show ck _ _ = some r from hr)
 cases h2
 obtain ⟨c, hc⟩ := List.length_eq_one_iff.1 h1
 have hs : sep = ⟨#[c]⟩ := by
  apply ByteArray.ext
  apply Array.toList_inj.1
  exact hc
 subst hs
 exact FPure.of_callsS (P := Tryz.prog) (f := 144) (args := [.string s, .string ⟨#[c]⟩]) (fun w => Any.stringslite_Index_one Tryz.lays219 s c w)
noncomputable def Q31.f (s sep : ByteArray) : Option Int := ck (sep.data.toList.length = 1) (some ((Lib.countByte s.data.toList (sep.data.toList.headD 0) : Nat)))
noncomputable def Q31.fn : TFn := ⟨[.str, .str], [.int .i64], fun x => Q31.f x.1 x.2⟩
theorem Q31.ok : FnOK Tryz.prog 155 Q31.fn := by
 refine ⟨enters_of (c := Z6 Tryz.f155) Tryz.func155 (by kernel_rfl) (by kernel_rfl), ?_⟩
 rintro ⟨s, sep⟩ r hr
 obtain ⟨h1, h2⟩ := Z1u (show ck _ _ = some r from hr)
 cases h2
 obtain ⟨c, hc⟩ := List.length_eq_one_iff.1 h1
 have hs : sep = ⟨#[c]⟩ := by
  apply ByteArray.ext
  apply Array.toList_inj.1
  exact hc
 subst hs
 exact FPure.of_callsS (P := Tryz.prog) (f := 155) (args := [.string s, .string ⟨#[c]⟩]) (fun w => Any.strings_Count_one Tryz.lays138 s c w)
noncomputable def Q2n.f (s cs : ByteArray) : Option ByteArray := ck (s.size ≤ 9223372036854775807 ∧ cs.size < 4294967281 ∧ cs.data.toList.all (fun b => decide (b.toNat < 128)) = true) (some ⟨(Lib.trimS s.data.toList cs.data.toList).toArray⟩)
noncomputable def Q2n.fn : TFn := ⟨[.str, .str], [.str], fun x => Q2n.f x.1 x.2⟩
theorem Q2n.ok : FnOK Tryz.prog 33 Q2n.fn := by
 refine ⟨enters_of (c := Z6 Tryz.f33) Tryz.func33 (by kernel_rfl) (by kernel_rfl), ?_⟩
 rintro ⟨s, cs⟩ r hr
 obtain ⟨⟨h1, h2, h3⟩, h4⟩ := Z1u (show ck _ _ = some r from hr)
 cases h4
 have h := fun w => Any.strings_Trim_laid Tryz.lays160 (by kernel_rfl) s cs w h1 h2 (ascii_of_all h3)
 exact FPure.of_calls (P := Tryz.prog) (f := 33) (args := [.string s, .string cs]) h
def Z1p (r : Nat) : Bool := decide (r < 33 ∨ 126 < r)
theorem Za1 (w : World) : PredAtRunes Tryz.prog 83 #[] Z1p w := by
 intro W x hx hb
 have e : Z1p x = (decide ((x : Int) < 33) || decide (126 < (x : Int))) := by
  unfold Z1p
  by_cases h1 : x < 33
  ·have h2 : (x : Int) < 33 := by omega
   simp [h1, h2]
  ·by_cases h3 : 126 < x
   ·have h4 : 126 < (x : Int) := by omega
    simp [h3, h4]
   ·have h2 : ¬ (x : Int) < 33 := by omega
    have h4 : ¬ 126 < (x : Int) := by omega
    simp [h1, h3, h2, h4]
 unfold FnGives
 go_enter Tryz.func83, Tryz.ntmps83
 go_wp2
 all_goals go_ret
 all_goals refine ⟨?_, 0, rfl⟩
 ·rw [e]; rfl
 ·rfl
theorem FPure.of_callsA {P : Program} {f : Nat} {args : List AV} {vals : List Value} {r : Value} (hl : args.length = vals.length) (hv : ∀ (σ : Nat → Option Blk) (F : Nat → Prop) (w : World) (j : Nat) (x : AV) (v : Value), args[j]? = some x → RepV σ F w x v → vals[j]? = some v)
  (h : ∀ w : World, Calls P f vals.toArray w fun e w' => e = .returned r ∧ Below w.heap.size w w') : FPure P f args (.v r) := by
 intro σ F w vs hr hl' hv'
 have hvs : vs = vals := by
  apply List.ext_getElem?
  intro j
  by_cases hj : j < args.length
  ·have hj2 : j < vs.length := by rw [← hl']; exact hj
   have := hv σ F w j args[j] vs[j] (List.getElem?_eq_getElem hj) (hv' j args[j] vs[j] (List.getElem?_eq_getElem hj) (List.getElem?_eq_getElem hj2))
   rw [this, List.getElem?_eq_getElem hj2]
  ·rw [List.getElem?_eq_none (by omega), List.getElem?_eq_none (by omega)]
 subst hvs
 have hno : ∀ id g, ¬ hasB σ id g := fun id g h => by
  obtain ⟨k, h, _⟩ := h
  rw [hr.out id (Nat.zero_le _)] at h; cases h
 refine (h w).mono ?_
 rintro e w' ⟨rfl, hb⟩
 refine ⟨.v r, [], σ, F, r, ⟨rfl, rfl⟩, rfl, .f _ _ (.v _), ⟨fun id o ho => by simp at ho, hr.out, hr.inj, fun id g h => absurd h (hno id g), fun b hb' => Nat.lt_of_lt_of_le (hr.flt b hb') hb.size, hr.lay.mono (fun _ h => h) (fun b hb' => hb.block b (hr.flt b hb'))⟩, ⟨hb.os, hb.tape, hb.output, hb.size, fun b hb' _ => hb.block b hb'⟩, fun id g h => absurd h (hno id g), fun b h => .inl h, fun id h => absurd h (Nat.not_lt_zero _), Nat.le_refl _⟩
noncomputable def Q2g.f (s : ByteArray) (_ : Unit) : Option Bool := some (decide (0 ≤ Lib.idxFunc Z1p true s))
noncomputable def Q2g.fn : TFn := ⟨[.str, .fnc 83], [.bool], fun x => Q2g.f x.1 x.2⟩
theorem Q2g.ok : FnOK Tryz.prog 82 Q2g.fn := by
 refine ⟨enters_of (c := Z6 Tryz.f82) Tryz.func82 (by kernel_rfl) (by kernel_rfl), ?_⟩
 rintro ⟨s, u⟩ r hr
 cases hr
 have h := fun w => Any.strings_ContainsFunc_runes Tryz.laysC17 83 #[] (enters_of Tryz.func83 (by kernel_rfl) rfl) Z1p s w (Za1 w)
 refine FPure.of_callsA (P := Tryz.prog) (f := 82) (args := [.v (.string s), .fn 83 []]) (vals := [.string s, .func (.func 83) #[] #[]]) rfl (fun σ F w j x v hx hr => ?_) h
 match j, hx with
 | 0, hx => cases hx; rw [RepV.val hr]; rfl
 | 1, hx =>
  cases hx
  obtain ⟨vs, rfl, hl, _⟩ := RepV.fnv hr
  have : vs = [] := List.eq_nil_of_length_eq_zero hl.symm
  subst this
  rfl
theorem Builder_Extra_156 : Builder.Extra Tryz.prog Tryz.lays156_ren where
 sizeBuilder := by kernel_rfl
 liesBuilder := by kernel_rfl
 t5 := by kernel_rfl
 a5 := Tryz.isAgg5
 z5 := Tryz.sizeOf5
 v5 := Tryz.zeroValue5
 infoByte := by kernel_rfl
 cellsByte := by kernel_rfl
 sizeByte := by kernel_rfl
 neB5 := by decide
noncomputable def Zby (xs : List ByteArray) (sep : ByteArray) : ByteArray := ⟨(Lib.join (xs.map (·.data.toList)) sep.data.toList).toArray⟩
noncomputable def Q2z.f (xs : List ByteArray) (sep : ByteArray) : Option ByteArray := ck (xs.length ≤ 140737488355328 ∧ (Zby xs sep).size ≤ 140737488355328) (some (Zby xs sep))
noncomputable def Q2z.fn : TFn := ⟨[.slice .str, .str], [.str], fun x => Q2z.f x.1 x.2⟩
theorem Q2z.ok : FnOK Tryz.prog 89 Q2z.fn := by
 refine ⟨enters_of (c := Z6 Tryz.f89) Tryz.func89 (by kernel_rfl) (by kernel_rfl), ?_⟩
 rintro ⟨xs, sep⟩ r hr
 obtain ⟨⟨h1, h2⟩, h3⟩ := Z1u (show ck _ _ = some r from hr)
 cases h3
 have h4 : (Lib.join ((xs : List ByteArray).map (·.data.toList)) sep.data.toList).length ≤ 140737488355328 := by
  have e : (Zby xs sep).size = (Lib.join ((xs : List ByteArray).map (·.data.toList)) sep.data.toList).length := List.size_toArray ..
  rw [← e]; exact h2
 refine FPure.ofRowS (xs := xs) (fun h0 a c w => ?_) (fun bk o c w hc hb hl => ?_)
 ·have h0 : (xs : List ByteArray) = [] := h0
  subst h0
  exact (Any.strings_Join_none Tryz.lays156 Builder_Extra_156 a c sep w).mono fun e w' ⟨he, hw⟩ => ⟨he, hw ▸ Below.refl _ _⟩
 ·exact Any.strings_Join Tryz.lays156 Builder_Extra_156 bk o c xs sep w hc hb h1 hl h4
theorem Zex {w : World} (h : ∀ p ∈ LAID, ∃ e q, w.heap[p.1]? = some (.cells p.2 e q)) : Lib.TabIs Tryz.prog w "internal/strconv.uint64pow10" .u64 Lib.pow10Tab := by
 obtain ⟨e, q, h1⟩ := h (3, (Lib.pow10Tab.map fun z => Value.int .u64 z).toArray) (by simp [LAID])
 have hg : Tryz.prog.globalNamed "internal/strconv.uint64pow10" = some 3 := by kernel_rfl
 unfold Lib.TabIs World.var?
 rw [hg]
 simp only [Option.bind_some, h1]
noncomputable def Zbz (n : Int) : ByteArray := ⟨(Lib.itoa n).toArray⟩
noncomputable def Q30.f (n : Int) : Option ByteArray := ck (-9223372036854775808 ≤ n ∧ n ≤ 9223372036854775807) (some (Zbz n))
noncomputable def Q30.fn : TFn := ⟨[.int .i64], [.str], fun x => Q30.f x⟩
theorem Q30.ok : FnOK Tryz.prog 90 Q30.fn := by
 refine ⟨enters_of (c := Z6 Tryz.f90) Tryz.func90 (by kernel_rfl) (by kernel_rfl), ?_⟩
 intro n r hr
 obtain ⟨⟨h1, h2⟩, h3⟩ := Z1u (show ck _ _ = some r from hr)
 cases h3
 refine FPure.of_callsL (P := Tryz.prog) (f := 90) (args := [.int .i64 n]) (fun w hw => ?_)
 refine (Any.strconv_Itoa Tryz.laysM171 n h1 h2 w (Zex hw)).mono ?_
 rintro e w' ⟨he, k, os, rfl⟩
 exact ⟨he, below_grown_sl _ w k os (Nat.le_refl _)⟩
end Go.Proofs.YtplgphblmeceoaaGreatDoor
set_option linter.unusedVariables false
set_option maxRecDepth 100000
namespace Go.Proofs
open Go.Shelf
def Tryz.lays190_ren : Go.Shelf.Ren := ⟨fun | 190 => 46 | 125 => 76 | 258 => 75 | 128 => 101 | 129 => 102 | 302 => 92 | 303 => 93 | 304 => 94 | 305 => 95 | 306 => 96 | 307 => 97 | 308 => 98 | 309 => 99 | 310 => 100 | 333 => 119 | 329 => 120 | 330 => 121 | 334 => 122 | 335 => 123 | 336 => 124 | 344 => 141 | n => n, fun | 31 => 38 | 9 => 9 | 3 => 3 | 46 => 100 | 0 => 0 | 51 => 124 | 53 => 113 | 4 => 4 | 183 => 118 | 182 => 117 | 131 => 71 | 5 => 5 | 218 => 142 | 222 => 146 | 228 => 158 | 229 => 159 | n => n, fun | n => n⟩
theorem Tryz.lays190 : Go.Proofs.Lays.n190 Tryz.prog Tryz.lays190_ren := {
 mixed := by kernel_rfl
 f125 := Tryz.func76.trans (congrArg some (by kernel_rfl))
 f128 := Tryz.func101.trans (congrArg some (by kernel_rfl))
 f129 := Tryz.func102.trans (congrArg some (by kernel_rfl))
 f190 := Tryz.func46.trans (congrArg some (by kernel_rfl))
 f258 := Tryz.func75.trans (congrArg some (by kernel_rfl))
 f302 := Tryz.func92.trans (congrArg some (by kernel_rfl))
 f303 := Tryz.func93.trans (congrArg some (by kernel_rfl))
 f304 := Tryz.func94.trans (congrArg some (by kernel_rfl))
 f305 := Tryz.func95.trans (congrArg some (by kernel_rfl))
 f306 := Tryz.func96.trans (congrArg some (by kernel_rfl))
 f307 := Tryz.func97.trans (congrArg some (by kernel_rfl))
 f308 := Tryz.func98.trans (congrArg some (by kernel_rfl))
 f309 := Tryz.func99.trans (congrArg some (by kernel_rfl))
 f310 := Tryz.func100.trans (congrArg some (by kernel_rfl))
 f329 := Tryz.func120.trans (congrArg some (by kernel_rfl))
 f330 := Tryz.func121.trans (congrArg some (by kernel_rfl))
 f333 := Tryz.func119.trans (congrArg some (by kernel_rfl))
 f334 := Tryz.func122.trans (congrArg some (by kernel_rfl))
 f335 := Tryz.func123.trans (congrArg some (by kernel_rfl))
 f336 := Tryz.func124.trans (congrArg some (by kernel_rfl))
 f344 := Tryz.func141.trans (congrArg some (by kernel_rfl))
 t0 := Tryz.underlying0
 a0 := Tryz.isAgg0
 z0 := Tryz.sizeOf0
 v0 := Tryz.zeroValue0
 t3 := Tryz.underlying3
 a3 := Tryz.isAgg3
 z3 := Tryz.sizeOf3
 v3 := Tryz.zeroValue3
 t4 := Tryz.underlying4
 a4 := Tryz.isAgg4
 z4 := Tryz.sizeOf4
 v4 := Tryz.zeroValue4
 t5 := Tryz.underlying5
 a5 := Tryz.isAgg5
 z5 := Tryz.sizeOf5
 v5 := Tryz.zeroValue5
 t9 := Tryz.underlying9
 a9 := Tryz.isAgg9
 z9 := Tryz.sizeOf9
 v9 := Tryz.zeroValue9
 t31 := Tryz.underlying38
 a31 := Tryz.isAgg38
 z31 := Tryz.sizeOf38
 v31 := Tryz.zeroValue38
 t46 := Tryz.underlying100
 a46 := Tryz.isAgg100
 z46 := Tryz.sizeOf100
 v46 := Tryz.zeroValue100
 t51 := Tryz.underlying124
 a51 := Tryz.isAgg124
 z51 := Tryz.sizeOf124
 v51 := Tryz.zeroValue124
 t53 := Tryz.underlying113
 a53 := Tryz.isAgg113
 z53 := Tryz.sizeOf113
 v53 := Tryz.zeroValue113
 t131 := Tryz.underlying71
 a131 := Tryz.isAgg71
 z131 := Tryz.sizeOf71
 v131 := Tryz.zeroValue71
 t182 := Tryz.underlying117
 a182 := Tryz.isAgg117
 z182 := Tryz.sizeOf117
 v182 := Tryz.zeroValue117
 t183 := Tryz.underlying118
 a183 := Tryz.isAgg118
 z183 := Tryz.sizeOf118
 v183 := Tryz.zeroValue118
 t218 := Tryz.underlying142
 a218 := Tryz.isAgg142
 z218 := Tryz.sizeOf142
 v218 := Tryz.zeroValue142
 t222 := Tryz.underlying146
 a222 := Tryz.isAgg146
 z222 := Tryz.sizeOf146
 v222 := Tryz.zeroValue146
 t228 := Tryz.underlying158
 a228 := Tryz.isAgg158
 z228 := Tryz.sizeOf158
 v228 := Tryz.zeroValue158
 t229 := Tryz.underlying159
 a229 := Tryz.isAgg159
 z229 := Tryz.sizeOf159
 v229 := Tryz.zeroValue159 }
def Tryz.lays194_ren : Go.Shelf.Ren := ⟨fun | 194 => 47 | n => n, fun | 31 => 38 | 9 => 9 | 3 => 3 | 4 => 4 | 0 => 0 | n => n, fun | n => n⟩
theorem Tryz.lays194 : Go.Proofs.Lays.n194 Tryz.prog Tryz.lays194_ren := {
 mixed := by kernel_rfl
 f194 := Tryz.func47.trans (congrArg some (by kernel_rfl))
 t0 := Tryz.underlying0
 a0 := Tryz.isAgg0
 z0 := Tryz.sizeOf0
 v0 := Tryz.zeroValue0
 t3 := Tryz.underlying3
 a3 := Tryz.isAgg3
 z3 := Tryz.sizeOf3
 v3 := Tryz.zeroValue3
 t4 := Tryz.underlying4
 a4 := Tryz.isAgg4
 z4 := Tryz.sizeOf4
 v4 := Tryz.zeroValue4
 t9 := Tryz.underlying9
 a9 := Tryz.isAgg9
 z9 := Tryz.sizeOf9
 v9 := Tryz.zeroValue9
 t31 := Tryz.underlying38
 a31 := Tryz.isAgg38
 z31 := Tryz.sizeOf38
 v31 := Tryz.zeroValue38 }
end Go.Proofs
namespace Go.Proofs.YtplgphblmeceoaaGreatDoor
open Go Go.RowKit Go.Proofs.YtplgphblmeceoaaGreatDoor.Eng
def vS (b : ByteArray) : List Value := [.string b]
def toL (b : ByteArray) : List UInt8 := b.data.toList
def ofL (l : List UInt8) : ByteArray := ⟨l.toArray⟩
theorem ofL_toL (b : ByteArray) : ofL (toL b) = b := by
 cases b; simp [ofL, toL]
theorem flatS : ∀ l : List ByteArray, (l.map vS).flatten = l.map Value.string
 | [] => rfl
 | x :: r => by simp only [List.map_cons, List.flatten_cons, flatS r]; rfl
theorem Zaf (l : List (List UInt8)) : l.map Go.Proofs.encStr = (l.map ofL).map Value.string := by
 rw [List.map_map]; rfl
theorem mapS (l : List ByteArray) : l.map Value.string = (l.map toL).map Go.Proofs.encStr := by
 rw [Zaf]
 congr 1
 rw [List.map_map]
 exact ((List.map_congr_left fun b _ => ofL_toL b).trans (List.map_id l)).symm
theorem Zk5 {w : World} {blk off : Nat} {l : List (List UInt8)} (h : Sort.Holds _root_.id w blk off (l.map Go.Proofs.encStr).toArray) : Sort.Holds Go.Proofs.encStr w blk off l.toArray := by
 intro j hj
 have hj' : j < l.length := by simpa using hj
 have h1 := h j (by simpa using hj')
 have e2 : (l.map Go.Proofs.encStr).toArray[j]! = Go.Proofs.encStr (l.toArray[j]!) := by
  rw [getElem!_pos _ j (by simpa using hj'), getElem!_pos _ j (by simpa using hj')]
  simp
 rw [e2] at h1
 exact h1
theorem putS (w : World) (blk off : Nat) (l : List (List UInt8)) : Sort.putRow Go.Proofs.encStr w blk off l.toArray = Sort.putRow _root_.id w blk off (l.map Go.Proofs.encStr).toArray := by
 unfold Sort.putRow Sort.putCells
 congr 1
 funext c
 apply Array.ext
 ·simp
 ·intro t h1 h2
  simp only [Array.getElem_mapIdx, List.size_toArray, List.length_map]
  by_cases hc : off ≤ t ∧ t < off + l.length
  ·rw [if_pos hc, if_pos hc, getElem!_pos _ (t - off) (by simp; omega), getElem!_pos _ (t - off) (by simp; omega)]
   simp
  ·rw [if_neg hc, if_neg hc]
def Z4m (xs : List ByteArray) : List ByteArray := (((xs.map toL).mergeSort fun x y => decide (x ≤ y))).map ofL
theorem Zfx (xs : List ByteArray) (hlen : xs.length ≤ 1000000000) : SortPair Tryz.prog 46 1000000 1 (xs.map vS) ((Z4m xs).map vS) := by
 refine ⟨by simp [Z4m], fun c hc => ?_, fun c hc v hv => ?_, fun h0 p cap w => ?_, fun h0 blk off cap w hH hblk => ?_⟩
 ·obtain ⟨x, _, rfl⟩ := List.mem_map.1 hc
  rfl
 ·obtain ⟨x, _, rfl⟩ := List.mem_map.1 hc
  have hv' : v ∈ [Value.string x] := hv
  rw [List.mem_singleton.1 hv']; rfl
 ·exact Any.slices_Sort_string_none Tryz.lays190 p cap w
 ·rw [flatS, mapS] at hH
  have hcon := Any.slices_Sort_string Tryz.lays190 blk off cap (xs.map toL) w (Zk5 hH) hblk (by rw [List.length_map]; omega)
  rw [List.length_map] at hcon
  rw [List.length_map]
  refine Calls.mono hcon ?_
  rintro e w' ⟨he, n, os, hw⟩
  refine ⟨he, n, os, ?_⟩
  rw [hw, flatS, putS]
  unfold Z4m
  rw [Zaf]
noncomputable def Z1w (xs : List ByteArray) : List ByteArray := (Lib.compact (xs.map toL)).map ofL
theorem Zjn (xs : List ByteArray) (hlen : xs.length ≤ 1000000000) : CutPair Tryz.prog 47 1 (xs.map vS) ((Z1w xs ++ List.replicate (xs.length - (Z1w xs).length) (ByteArray.empty)).map vS) (Z1w xs).length := by
 have hle : (Lib.compact (xs.map toL)).length ≤ xs.length := by
  unfold Lib.compact Lib.compactUpTo
  rw [List.length_map]
  exact Nat.le_trans (List.length_filter_le _ _) (by simp)
 have hcl : (Z1w xs).length = (Lib.compact (xs.map toL)).length := by simp [Z1w]
 refine ⟨by simp; omega, by simp; omega, fun c hc => ?_, fun c hc v hv => ?_, fun h0 p cap w => ?_, fun h0 blk off cap w hH hblk hcap => ?_⟩
 ·obtain ⟨x, _, rfl⟩ := List.mem_map.1 hc
  rfl
 ·obtain ⟨x, _, rfl⟩ := List.mem_map.1 hc
  have hv' : v ∈ [Value.string x] := hv
  rw [List.mem_singleton.1 hv']; rfl
 ·exact Any.slices_Compact_string_empty Tryz.lays194 p cap w
 ·rw [flatS, mapS] at hH
  rw [List.length_map] at hcap
  have hcon := Any.slices_Compact_string Tryz.lays194 blk off cap (xs.map toL) w (Zk5 hH) (by rw [List.length_map]; omega) (by rw [List.length_map]; exact hcap)
  rw [List.length_map] at hcon
  rw [List.length_map, hcl]
  refine Calls.mono hcon ?_
  rintro e w' ⟨he, n, hw⟩
  refine ⟨he, n, #[], ?_⟩
  rw [hw, Sort.grow_empty, flatS, putS, Zaf]
  congr 3
  rw [List.map_append, List.map_replicate]
  rfl
noncomputable def Z0 (xs : List ByteArray) : Option (List ByteArray) := ck (xs.length ≤ 1000000000) (some (Z4m xs))
noncomputable def srt_46_1000000 : SFn := ⟨.str, Z0, none⟩
theorem srt_46_1000000_ok : SoOK Tryz.prog 46 1000000 srt_46_1000000 := by
 refine ⟨enters_of (c := Z6 Tryz.f46) Tryz.func46 (by kernel_rfl) (by kernel_rfl), rfl, fun xs ys h => ?_⟩
 obtain ⟨hlen, h⟩ := Z1u (show ck _ _ = some ys from h)
 cases h
 exact Zfx xs hlen
noncomputable def Z4 (xs : List ByteArray) : Option (List ByteArray) := ck (xs.length ≤ 1000000000) (some (Z1w xs ++ List.replicate (xs.length - (Z1w xs).length) (ByteArray.empty)))
noncomputable def srt_47_1000000 : SFn := ⟨.str, Z4, some fun xs => (Z1w xs).length⟩
theorem srt_47_1000000_ok : SoOK Tryz.prog 47 1000000 srt_47_1000000 := by
 refine ⟨enters_of (c := Z6 Tryz.f47) Tryz.func47 (by kernel_rfl) (by kernel_rfl), rfl, fun xs ys h => ?_⟩
 obtain ⟨hlen, h⟩ := Z1u (show ck _ _ = some ys from h)
 cases h
 exact ⟨rfl, Zjn xs hlen⟩
end Go.Proofs.YtplgphblmeceoaaGreatDoor
set_option linter.unusedVariables false
set_option maxRecDepth 100000
namespace Go.Proofs
open Go.Shelf
end Go.Proofs
namespace Go.Proofs.YtplgphblmeceoaaGreatDoor
open Go Go.RowKit Go.Maps Go.Sort Go.Shelf Go.Proofs.YtplgphblmeceoaaGreatDoor.Eng
abbrev Sc : Type := ByteArray × (Int × Int)
end Go.Proofs.YtplgphblmeceoaaGreatDoor
set_option linter.unusedVariables false
set_option maxRecDepth 100000
namespace Go.Proofs.YtplgphblmeceoaaGreatDoor
open Go Go.Proofs.YtplgphblmeceoaaGreatDoor.Eng
abbrev ClB : Ty := .pair .str (.pair .str (.pair .str (.pair .str (.pair (.int .i64) (.pair (.slice .str) .str)))))
noncomputable def bwC : Cx := ⟨T, TYt, lkF [], lkO [], lkD [], lkP [], [], [], false, [], [], lkS [], 4, lkW [], 0⟩
theorem bw_hC : CxOK Tryz.prog bwC := ⟨tabOK, FsOK.nil, OsOK.nil, mixed, (fun t h => by cases h), (fun t e h => by cases h), SsOK.nil, WsOK.nil⟩
noncomputable def Q1r.f (l : List (ByteArray × (ByteArray × (ByteArray × (ByteArray × (Int × ((List ByteArray) × ByteArray))))))) : Option (List (ByteArray × (ByteArray × (ByteArray × (ByteArray × (Int × ((List ByteArray) × ByteArray))))))) := some l
noncomputable def Q1r.fn : TFn := ⟨[.slice ClB], [.clo 38 (.ref (.slice ClB))], fun x => Q1r.f x⟩
noncomputable def bw_root : Code := Z6 Tryz.f20
theorem Q1r.ok : FnOK Tryz.prog 20 Q1r.fn :=
 FnOK.of (L := lkL []) (root := bw_root) bw_hC (enters_of (c := bw_root) Tryz.func20 (by kernel_rfl) (by kernel_rfl)) Tryz.func20 (by kernel_rfl) (rs := [.tmp 2]) (by kernel_rfl) (by kernel_rfl) LsOK.nil (fun x => by kernel_rfl)
def Zey (root : Code) (p : List Nat) : List Oper := match atC root p with
 | some (.region _ ops _) => ops.toList
 | _ => []
noncomputable def bi_root : Code := Z6 Tryz.f38
noncomputable def bi_oc : Oper := (Zey bi_root [0, 0, 0, 1, 0, 0, 1]).getD 6 default
noncomputable def bi_on : Oper := (Zey bi_root [0, 0, 0, 1, 0, 0, 1]).getD 7 default
def elB (cs : List AV) : AV := Z18 ti43 cs
theorem bi_shape : bi_root = .seq (.region 0 (Zey bi_root [0]).toArray false) (.block 0 (.loop (.seq (.seq (.region 1 (Zey bi_root [0, 0, 0, 0, 1]).toArray false) (.cond (.tmp 8) .skip (.exit 0)))
  (.seq (.block 1 (.seq (.region 3 ((Zey bi_root [0, 0, 0, 1, 0, 0, 1]).take 6 ++ [bi_oc, bi_on]).toArray false) (.cond (.tmp 18) .ret .skip))) (.region 2 (Zey bi_root [1, 1, 0, 0, 1]).toArray false))))) := by kernel_rfl
theorem Zgq {env : List (Nat × AV)} : ∀ (small : List (Nat × AV)), (∀ p ∈ small, envGet small p.1 = envGet env p.1) → St.le ⟨env, []⟩ ⟨small, []⟩ := by
 intro small h
 refine ⟨rfl, fun i => ?_⟩
 by_cases hi : ∃ p ∈ small, p.1 = i
 ·obtain ⟨p, hp, rfl⟩ := hi
  show AV.le (envGet env p.1) (envGet small p.1)
  rw [h p hp]; exact .refl _
 ·have : ∀ l : List (Nat × AV), (¬ ∃ p ∈ l, p.1 = i) → envGet l i = .any := by
   intro l
   induction l with
   | nil => exact fun _ => rfl
   | cons q r ih =>
    intro h
    simp only [envGet]
    rw [if_neg (fun e => h ⟨q, List.mem_cons_self .., e.symm⟩)]
    exact ih (fun ⟨p, hp, e⟩ => h ⟨p, List.mem_cons_of_mem _ hp, e⟩)
  show AV.le (envGet env i) (envGet small i)
  rw [this small hi]; exact .any _
theorem back38 : BackIter Tryz.prog 38 7 elB := by
 refine BackIter.of (T := T) (n := 19) (root := bi_root) tabOK (enters_of (c := bi_root) Tryz.func38 (by kernel_rfl) (by kernel_rfl)) Tryz.func38 (by kernel_rfl) (by kernel_rfl) (by kernel_rfl) (by omega) (i0 := 0) (i1 := 1) (i2 := 2) (i3 := 3) (b0 := 0) (b1 := 1) (by omega) bi_shape (ts := #[3, 43]) (by kernel_rfl) (by kernel_rfl) (by kernel_rfl) (by kernel_rfl) (by kernel_rfl) (by kernel_rfl) (by kernel_rfl) (by kernel_rfl) ?_ ?_ ?_ ?_ ?_
 ·intro yv es hb
  refine ⟨_, ⟨[(3, .v (.int .i64 (IntKind.i64.wrap ((es.length : Int) - 1)))), (6, .v (.int .i64 (IntKind.i64.wrap ((es.length : Int) - 1)))), (5, .v (.int .i64 (es.length : Int))), (4, .ro 7 es), (1, .rp [.ro 7 es]), (0, .v yv)], []⟩, rfl, by simp [ti23, TK.agg], ?_⟩
  rw [IntWalk.i64_in _ (by omega)]
  exact Zgq _ (by simp [envGet])
 ·intro yv es k
  refine ⟨_, ⟨[(8, .v (.bool (decide (0 ≤ k)))), (7, .v (.int .i64 k)), (3, .v (.int .i64 k)), (1, .rp [.ro 7 es]), (0, .v yv)], []⟩, rfl, by simp, ?_⟩
  exact Zgq _ (by simp [envGet])
 ·intro yv es k cs hk hc
  refine ⟨_, ⟨[(16, Z18 ti43 (getRow es ((k : Int).toNat))), (15, .rp (getRow es ((k : Int).toNat))), (14, .v (.int .i64 (k : Int))), (13, .ro 7 es), (12, .v (.int .i64 (k : Int))), (11, .v yv), (3, .v (.int .i64 (k : Int))), (1, .rp [.ro 7 es]), (0, .v yv)], []⟩, rfl, ?_, ?_⟩
  ·have h1 : getRow es k = cs := by simp [getRow, hk]
   have hkl := (List.getElem?_eq_some_iff.1 hk).1
   simp [ti23, ti43, TK.agg, h1, hc]
   omega
  ·have h1 : getRow es k = cs := by simp [getRow, hk]
   rw [Int.toNat_natCast, h1]
   exact Zgq _ (by simp [envGet, elB])
 ·intro yv es k b
  refine ⟨_, ⟨[(18, .v (.bool !b)), (17, .v (.bool b)), (3, .v (.int .i64 k)), (1, .rp [.ro 7 es]), (0, .v yv)], []⟩, rfl, by simp, ?_⟩
  exact Zgq _ (by simp [envGet])
 ·intro yv es k hb hk
  refine ⟨_, ⟨[(3, .v (.int .i64 (IntKind.i64.wrap ((k : Int) - 1)))), (10, .v (.int .i64 (IntKind.i64.wrap ((k : Int) - 1)))), (9, .v (.int .i64 (k : Int))), (3, .v (.int .i64 (k : Int))), (1, .rp [.ro 7 es]), (0, .v yv)], []⟩, rfl, by simp, ?_⟩
  rw [IntWalk.i64_in _ (by omega)]
  exact Zgq _ (by simp [envGet])
theorem el38_ok (x : ClB.den) : elB (ClB.cells x) = ClB.av x := by
 obtain ⟨a, b, c, d, e, f, g⟩ := x
 rfl
end Go.Proofs.YtplgphblmeceoaaGreatDoor
