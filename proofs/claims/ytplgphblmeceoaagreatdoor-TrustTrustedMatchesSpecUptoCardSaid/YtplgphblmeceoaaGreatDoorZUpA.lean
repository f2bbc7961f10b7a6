/-
  Part of a proof; nothing here is trusted.
-/
import Derived.Test.YtplgphblmeceoaaGreatDoorEngB
import Derived.Test.YtplgphblmeceoaaGreatDoorTypC
set_option linter.unusedVariables false
set_option linter.unusedSimpArgs false
namespace Go.Proofs.YtplgphblmeceoaaGreatDoor.Eng.Up
open Go.Proofs.YtplgphblmeceoaaGreatDoor.Eng
def upBytes : Nat := 4294967296
open Go Go.RowKit
def Zaq (S : Nat → List AV → Prop) : List Nat → List AV → Prop
 | [], xs => xs = []
 | t :: ts, xs => ∃ a b, xs = a ++ b ∧ S t a ∧ Zaq S ts b
def ShapeCU (T : Tab) : Nat → Nat → List AV → Prop
 | 0, _, _ => False
 | m + 1, t, xs => match T t with
  | some ⟨.int k, _, _, _⟩ => ∃ n, xs = [.v (.int k n)] ∧ (Lit.int k n).wf = true
  | some ⟨.bool, _, _, _⟩ => ∃ b, xs = [.v (.bool b)]
  | some ⟨.str, _, _, _⟩ => ∃ s : ByteArray, xs = [.v (.string s)] ∧ s.size ≤ upBytes
  | some ⟨.slice e, _, _, _⟩ => match T e with
   | some i => ∃ es, xs = [.ro i.size es] ∧ es.length * i.bytes ≤ upBytes ∧ ∀ c ∈ es, ShapeCU T m e c
   | none => False
  | some ⟨.struct fs, _, _, _⟩ => Zaq (ShapeCU T m) (fs.map (·.2)) xs
  | _ => False
def Z6h (T : Tab) : Nat → List (Nat × Nat) → Option Nat
 | off, [] => some off
 | off, (o, t) :: r => if o = off then match T t with | some i => Z6h T (off + i.size) r | none => none else none
def Z7k (T : Tab) : Nat → Nat → Bool
 | 0, _ => false
 | m + 1, t => match T t with
  | some ⟨.int _, _, _, _⟩ | some ⟨.bool, _, _, _⟩ | some ⟨.str, _, _, _⟩ => true
  | some ⟨.slice e, _, _, _⟩ => match T e with | some i => decide (0 < i.size) && Z7k T m e | none => false
  | some ⟨.struct fs, n, _, _⟩ => decide (Z6h T 0 fs = some n) && fs.all (fun p => Z7k T m p.2)
  | _ => false
def Z7d (F : Nat → Prop) (w : World) (xs : List AV) (cs : List Value) : Prop := xs.length = cs.length ∧ ∀ (j : Nat) (x : AV) (v : Value), xs[j]? = some x → cs[j]? = some v → RepF F w x v ∧ v.oneCell' = true
section
variable {H : Type} {enc : TypeId × Value → H} {P : Program} {T : Tab} {w : World} {sp : Nat → Bool} {held : Bool}
theorem TIOk.cellsOf {t : Nat} {i : TI} (h : TIOk P t i) : P.cellsOf t = i.size ∧ P.bytesOf t = i.bytes := by
 obtain ⟨x, hx, hh⟩ := Option.map_eq_some_iff.1 h.info
 simp only [Prod.mk.injEq] at hh
 simp [Program.cellsOf, Program.bytesOf, hx, hh.2.1, hh.2.2]
theorem tile_leU : ∀ {l : List (Nat × Nat)} {off e : Nat}, Z6h T off l = some e → off ≤ e
 | [], off, e, h => by simp [Z6h] at h; omega
 | (o, t) :: r, off, e, h => by
  unfold Z6h at h
  split at h
  ·split at h
   ·have := tile_leU h; omega
   ·cases h
  ·cases h
theorem Z3w {e : Nat} : ∀ {l : List (DataW H)} {d : DataW H}, (DataW.weightsAll P e l).all (· ≤ upBytes) = true → d ∈ l → (d.weights P e).all (· ≤ upBytes) = true
 | y :: r, d, h, hd => by
  unfold DataW.weightsAll at h
  rw [List.all_append, Bool.and_eq_true] at h
  rcases List.mem_cons.1 hd with rfl | hd
  ·exact h.1
  ·exact Z3w h.2 hd
theorem Zdz {α : Type} {Pr : Nat → α → Prop} : ∀ (n : Nat), (∀ i, i < n → ∃ c, Pr i c) → ∃ l : List α, l.length = n ∧ ∀ i c, l[i]? = some c → Pr i c
 | 0, _ => ⟨[], rfl, fun i c h => by simp at h⟩
 | n + 1, h => by
  obtain ⟨l, hl, hp⟩ := Zdz n (fun i hi => h i (by omega))
  obtain ⟨c, hc⟩ := h n (by omega)
  refine ⟨l ++ [c], by simp [hl], fun i x hx => ?_⟩
  rcases Nat.lt_or_ge i l.length with h1 | h1
  ·rw [List.getElem?_append_left h1] at hx; exact hp i x hx
  ·rw [List.getElem?_append_right h1] at hx
   have h2 : i - l.length = 0 := by
    have := (List.getElem?_eq_some_iff.1 hx).1; simp at this; exact this
   rw [h2] at hx
   simp at hx
   subst hx
   obtain rfl : i = n := by omega
   exact hc
abbrev OldU (w : World) : Nat → Prop := fun b => b < w.heap.size
theorem Z6k {m n : Nat} {cs : List Value} (hT : Zo P T) (ih : ∀ (t : Nat) (cs : List Value) (x : DataW H × List MemPlace), Z7k T m t = true → DataW.trod enc P w 0 sp held n t cs = some x → (x.1.weights P t).all (· ≤ upBytes) = true → ∃ xs, ShapeCU T m t xs ∧ Z7d (OldU w) w xs cs) :
  ∀ (fl : List Field) (xs : List (DataW H × List MemPlace)) (off e : Nat), fl.length = xs.length → (∀ (i : Nat) (f : Field), fl[i]? = some f → DataW.trod enc P w 0 sp held n f.type ((cs.drop f.offset).take (P.cellsOf f.type)) = xs[i]?) → Z6h T off (fl.map fun f => (f.offset, f.type)) = some e → e = cs.length →
   (fl.map fun f => (f.offset, f.type)).all (fun p => Z7k T m p.2) = true → (DataW.weightsEach P (fl.map (·.type)) (xs.map (·.1))).all (· ≤ upBytes) = true →
   ∃ ys, Zaq (ShapeCU T m) (fl.map (·.type)) ys ∧ off + ys.length = e ∧ ∀ (j : Nat) (x : AV) (v : Value), ys[j]? = some x → cs[off + j]? = some v → RepF (OldU w) w x v ∧ v.oneCell' = true
 | [], xs, off, e, hl, h, ht, he, hs, hw => ⟨[], rfl, by simp [Z6h] at ht; simpa using ht, fun j x v hx => by simp at hx⟩
 | f :: fl, [], off, e, hl, h, ht, he, hs, hw => by simp at hl
 | f :: fl, x :: xs, off, e, hl, h, ht, he, hs, hw => by
  simp only [List.map_cons, Z6h] at ht
  split at ht
  ·rename_i ho
   split at ht
   ·rename_i i hi
    simp only [List.map_cons, List.all_cons, Bool.and_eq_true] at hs
    simp only [List.map_cons, DataW.weightsEach, List.all_append, Bool.and_eq_true] at hw
    have hle := tile_leU ht
    have h0 := h 0 f rfl
    rw [(hT _ _ hi).cellsOf.1, ho] at h0
    obtain ⟨a, ha, hal, hac⟩ := ih _ _ x hs.1 h0 hw.1
    obtain ⟨b, hb, hbl, hbc⟩ := Z6k hT ih fl xs _ e (by simpa using hl) (fun k g hg => h (k + 1) g (by simpa using hg)) ht he hs.2 hw.2
    have hal' : a.length = i.size := by rw [hal]; simp; omega
    refine ⟨a ++ b, ⟨a, b, rfl, ha, hb⟩, by simp; omega, fun j x v hx hv => ?_⟩
    rcases Nat.lt_or_ge j a.length with h1 | h1
    ·rw [List.getElem?_append_left h1] at hx
     refine hac j x v hx ?_
     rw [List.getElem?_take, if_pos (by omega), List.getElem?_drop]
     exact hv
    ·rw [List.getElem?_append_right h1] at hx
     refine hbc _ x v hx ?_
     rw [← hv]; congr 1; omega
   ·cases ht
  ·cases ht
theorem Z4u (hT : Zo P T) : ∀ (m : Nat) (t fuel : Nat) (cs : List Value) (x : DataW H × List MemPlace), Z7k T m t = true → DataW.trod enc P w 0 sp held fuel t cs = some x → (x.1.weights P t).all (· ≤ upBytes) = true →
  ∃ xs, ShapeCU T m t xs ∧ Z7d (OldU w) w xs cs
 | 0, _, _, _, _, hs, _, _ => by simp [Z7k] at hs
 | m + 1, t, fuel, cs, x, hs, h, hw => by
  have one : ∀ (y : Value), y.oneCell' = true → Z7d (OldU w) w [.v y] [y] := fun y hy => ⟨rfl, fun j x v hx hv => by
   have : j = 0 := by have := (List.getElem?_eq_some_iff.1 hx).1; simp at this; exact this
   subst this
   simp at hx hv
   subst hx hv
   exact ⟨.v _, hy⟩⟩
  unfold Z7k at hs
  unfold ShapeCU
  split at hs
  ·rename_i k n b z ht
   obtain ⟨q, rfl, rfl, hq⟩ := DataW.trod_int (hT _ _ ht).kind h
   try rw [ht]
   exact ⟨_, ⟨q, rfl, hq⟩, one _ rfl⟩
  ·rename_i n b z ht
   obtain ⟨q, rfl, rfl⟩ := DataW.trod_bool (hT _ _ ht).kind h
   try rw [ht]
   exact ⟨_, ⟨q, rfl⟩, one _ rfl⟩
  ·rename_i n b z ht
   obtain ⟨q, rfl, rfl, hq⟩ := DataW.trod_string (hT _ _ ht).kind h
   try rw [ht]
   refine ⟨_, ⟨q, rfl, ?_⟩, one _ rfl⟩
   simp [DataW.weights] at hw
   exact hw
  ·rename_i e n b z ht
   split at hs
   ·rename_i i hi
    rw [Bool.and_eq_true, decide_eq_true_eq] at hs
    try rw [ht]
    try rw [hi]
    obtain ⟨hsz, hby⟩ := (hT _ _ hi).cellsOf
    rcases DataW.trod_slice (hT _ _ ht).kind h with ⟨rfl, rfl⟩ | ⟨a, len, cap, elems, rest, q, rfl, rfl, rfl, hb, hl, hm, hlen, hel, _, _⟩
    ·refine ⟨_, ⟨[], rfl, by simp, fun c hc => by cases hc⟩, rfl, fun j x v hx hv => ?_⟩
     have : j = 0 := by have := (List.getElem?_eq_some_iff.1 hx).1; simp at this; exact this
     subst this
     simp at hx hv
     subst hx hv
     exact ⟨.nil0 _ _ _, rfl⟩
    ·simp only [DataW.weights, (show P.underlying t = some (.slice e) from (hT _ _ ht).kind), List.all_cons, List.all_append, Bool.and_eq_true, decide_eq_true_eq] at hw
     obtain ⟨hw1, hw2, _⟩ := hw
     have each : ∀ k, k < len → ∃ c : List AV, ShapeCU T m e c ∧ ∃ ds, w.cells? 0 (a.add (k * i.size)) i.size = some ds ∧ Z7d (OldU w) w c ds := fun k hk => by
      have h1 := hel k hk
      have hke : k < elems.length := by omega
      rw [hsz, List.getElem?_eq_getElem hke] at h1
      obtain ⟨ds, hds, htr⟩ := Option.bind_eq_some_iff.1 h1
      obtain ⟨c, hc, hcc⟩ := Z4u hT m e q ds _ hs.2 htr (Z3w hw2 (List.mem_map_of_mem (List.getElem_mem hke)))
      exact ⟨c, hc, ds, hds, hcc⟩
     obtain ⟨es, hes, hall⟩ := Zdz len each
     refine ⟨[.ro i.size es], ⟨es, rfl, ?_, fun c hc => ?_⟩, rfl, fun j x v hx hv => ?_⟩
     ·rw [hby] at hw1
      simp only [List.length_map] at hw1
      rw [hes]
      exact Nat.le_trans (Nat.mul_le_mul_right _ (by omega)) hw1
     ·obtain ⟨k, hk⟩ := List.getElem?_of_mem hc
      exact (hall k c hk).1
     ·have : j = 0 := by have := (List.getElem?_eq_some_iff.1 hx).1; simp at this; exact this
      subst this
      simp at hx hv
      subst hx hv
      refine ⟨?_, rfl⟩
      have key : ∀ k c, es[k]? = some c → c.length = i.size ∧ ∀ (j : Nat) (y : AV), c[j]? = some y → ∃ u, w.cell? (a.add (k * i.size + j)) = some u ∧ RepF (OldU w) w y u ∧ u.oneCell' = true := fun k c hk => by
       obtain ⟨_, ds, hds, hcl, hcc⟩ := hall k c hk
       obtain ⟨_, hdl, hcell⟩ := World.cells?_some hds
       refine ⟨by omega, fun j y hy => ?_⟩
       have hj : j < c.length := (List.getElem?_eq_some_iff.1 hy).1
       have hj2 : j < ds.length := by omega
       obtain ⟨h1, h2⟩ := hcc j y ds[j] hy (List.getElem?_eq_getElem hj2)
       refine ⟨ds[j], ?_, h1, h2⟩
       rw [← Zap, hcell j (by omega), List.getElem?_eq_getElem hj2]
      rcases Nat.eq_zero_or_pos len with h0 | h0
      ·subst h0
       obtain rfl : es = [] := List.eq_nil_of_length_eq_zero hes
       exact .nil0 _ _ _
      ·refine .ro _ _ _ _ a (fun k j => (w.cell? (a.add (k * i.size + j))).getD undef) hes hl ?_ (fun c hc => ?_) (fun k c j y hk hy => ?_) (fun k c j y hk hy => ?_)
       ·obtain ⟨c, hc⟩ : ∃ c, es[0]? = some c := ⟨_, List.getElem?_eq_getElem (by omega)⟩
        obtain ⟨hcl, hcc⟩ := key 0 c hc
        obtain ⟨u, hu, _⟩ := hcc 0 _ (List.getElem?_eq_getElem (by omega))
        have := World.block_lt_of_cell? w _ hu
        rw [Z2m] at this
        exact this
       ·obtain ⟨k, hk⟩ := List.getElem?_of_mem hc
        exact (key k c hk).1
       ·obtain ⟨u, hu, h1, h2⟩ := (key k c hk).2 j y hy
        rw [hu]; exact ⟨rfl, h2⟩
       ·obtain ⟨u, hu, h1, h2⟩ := (key k c hk).2 j y hy
        rw [hu]; exact h1
   ·cases hs
  ·rename_i fs n b z ht
   rw [Bool.and_eq_true, decide_eq_true_eq] at hs
   try rw [ht]
   obtain ⟨ar, hu, hm⟩ := (hT _ _ ht).kind
   obtain ⟨xs, q, rfl, rfl, hcl, hxl, hx⟩ := DataW.trod_struct hu h
   subst hm
   have hcn : P.cellsOf t = n := (hT _ _ ht).cellsOf.1
   simp only [DataW.weights, hu] at hw
   obtain ⟨ys, h1, h2, h3⟩ := Z6k (cs := cs) hT (fun t cs x h1 h2 h3 => Z4u hT m t q cs x h1 h2 h3) ar.toList xs 0 n (by simp [hxl]) (fun k f hf => hx k f (by simpa using hf)) hs.1 (by rw [hcl, hcn]) hs.2 (by simpa using hw)
   refine ⟨ys, by simpa [List.map_map, Function.comp_def] using h1, by rw [hcl, hcn]; omega, fun j x v hx hv => h3 j x v hx (by simpa using hv)⟩
  ·cases hs
end
end Go.Proofs.YtplgphblmeceoaaGreatDoor.Eng.Up
set_option linter.unusedVariables false
set_option linter.unusedSimpArgs false
namespace Go.Proofs.YtplgphblmeceoaaGreatDoor.Eng.Up
open Go.Proofs.YtplgphblmeceoaaGreatDoor.Eng
open Go Go.RowKit Go.ChangeShapes Go.WideShapes
def Z6e (T : Tab) (m t : Nat) (x : AV) : Prop := match T t with
 | some ⟨.struct _, _, _, _⟩ => ∃ xs, x = .agg xs ∧ ShapeCU T m t xs
 | _ => ShapeCU T m t [x]
def ShapeAU (T : Tab) (m : Nat) : List Nat → List AV → Prop
 | [], xs => xs = []
 | t :: ts, xs => ∃ x r, xs = x :: r ∧ Z6e T m t x ∧ ShapeAU T m ts r
section
variable {H : Type} {enc : TypeId × Value → H} {P : Program} {T : Tab} {W : World}
theorem ShapeCU.one {m t : Nat} {xs : List AV} (h : ShapeCU T m t xs) (hns : ∀ fs n b z, T t ≠ some ⟨.struct fs, n, b, z⟩) : ∃ x, xs = [x] := by
 cases m with
 | zero => exact h.elim
 | succ m =>
  unfold ShapeCU at h
  split at h
  ·obtain ⟨n, rfl, _⟩ := h; exact ⟨_, rfl⟩
  ·obtain ⟨n, rfl⟩ := h; exact ⟨_, rfl⟩
  ·obtain ⟨n, rfl, _⟩ := h; exact ⟨_, rfl⟩
  ·split at h
   ·obtain ⟨n, rfl, _⟩ := h; exact ⟨_, rfl⟩
   ·exact h.elim
  ·rename_i fs n b z ht
   exact absurd ht (hns fs n b z)
  ·exact h.elim
theorem Zgc (hT : Zo P T) {m t : Nat} {v : Value} {d : DataW H} {p : List MemPlace} {sp : Nat → Bool} {held : Bool} {r : Reach} {b0 : Nat} (hs : Z7k T m t = true) (hval : Value.okWide P W r b0 t v) (h : DataW.Trod enc P W 0 sp held t v d p) (hw : (d.weights P t).all (· ≤ upBytes) = true) :
  ∃ x, Z6e T m t x ∧ RepV (fun _ => none) (OldU W) W x v := by
 obtain ⟨fuel, hf⟩ := h
 obtain ⟨xs, hx, hl, hc⟩ := Z4u hT m t fuel _ _ hs hf hw
 by_cases hst : ∃ fs n b z, T t = some ⟨.struct fs, n, b, z⟩
 ·obtain ⟨fs, n, b, z, ht⟩ := hst
  obtain ⟨ar, hu, _⟩ := (hT _ _ ht).kind
  simp only [Value.okWide, hu] at hval
  obtain ⟨cs, rfl, _, _⟩ := hval
  refine ⟨.agg xs, by unfold Z6e; rw [ht]; exact ⟨xs, rfl, hx⟩, ?_⟩
  have := RepV.agg (σ := fun _ => none) (F := OldU W) (w := W) xs cs.toList (by simpa [Value.cells] using hl) (fun u hu => ?_) (fun j x u hx hu => .f _ _ (hc j x u hx (by simpa [Value.cells] using hu)).1)
  ·simpa using this
  ·obtain ⟨j, hj⟩ := List.getElem?_of_mem hu
   have hj1 : j < xs.length := by
    rw [hl]; exact (List.getElem?_eq_some_iff.1 (by simpa [Value.cells] using hj)).1
   exact (hc j _ u (List.getElem?_eq_getElem hj1) (by simpa [Value.cells] using hj)).2
 ·have hns : ∀ fs n b z, T t ≠ some ⟨.struct fs, n, b, z⟩ := fun fs n b z e => hst ⟨fs, n, b, z, e⟩
  obtain ⟨x, rfl⟩ := hx.one hns
  have hv : v.cells.toList = [v] := by
   cases m with
   | zero => exact hx.elim
   | succ m =>
    unfold Z7k at hs
    split at hs
    ·rename_i ht; obtain ⟨q, rfl⟩ := okWide_int (hT _ _ ht).kind hval; rfl
    ·rename_i ht; obtain ⟨q, rfl⟩ := okWide_bool (hT _ _ ht).kind hval; rfl
    ·rename_i ht; obtain ⟨q, rfl⟩ := okWide_string (hT _ _ ht).kind hval; rfl
    ·rename_i ht; obtain ⟨_, _, _, rfl⟩ := okWide_slice (hT _ _ ht).kind hval; rfl
    ·rename_i ht; exact absurd ht (hns _ _ _ _)
    ·cases hs
  refine ⟨x, ?_, .f _ _ (hc 0 x v rfl (by rw [hv]; rfl)).1⟩
  unfold Z6e
  split
  ·rename_i ht; exact absurd ht (hns _ _ _ _)
  ·exact hx
theorem Z96 (hT : Zo P T) {m : Nat} {r : Reach} {b0 : Nat} : ∀ (ts : List Nat) (vs : List Value) (ds : List (DataW H)) (p : List MemPlace), ts.all (Z7k T m) = true → DataW.TrodAll enc P W 0 (fun _ => true) true ts vs ds p →
  (∀ (j : Nat) t v, ts[j]? = some t → vs[j]? = some v → Value.okWide P W r b0 t v) → (DataW.weightsEach P ts ds).all (· ≤ upBytes) = true →
  ∃ xs, ShapeAU T m ts xs ∧ xs.length = vs.length ∧ ∀ (j : Nat) (x : AV) (u : Value), xs[j]? = some x → vs[j]? = some u → RepV (fun _ => none) (OldU W) W x u
 | [], vs, ds, p, hs, h, hval, hw => by
  cases vs with
  | nil => exact ⟨[], rfl, rfl, fun j x u hx => by simp at hx⟩
  | cons v vs => simp [DataW.TrodAll] at h
 | t :: ts, vs, ds, p, hs, h, hval, hw => by
  obtain ⟨v, vs', d, ds', p1, q, rfl, rfl, rfl, h1, h2⟩ := trodAll_cons h
  simp only [List.all_cons, Bool.and_eq_true] at hs
  simp only [DataW.weightsEach, List.all_append, Bool.and_eq_true] at hw
  obtain ⟨x, hx, hr⟩ := Zgc hT hs.1 (hval 0 t v rfl rfl) h1 hw.1
  obtain ⟨xs, hxs, hl, hrs⟩ := Z96 hT ts vs' ds' q hs.2 h2 (fun j t' v' a b => hval (j + 1) t' v' (by simpa using a) (by simpa using b)) hw.2
  refine ⟨x :: xs, ⟨x, xs, rfl, hx, hxs⟩, by simp [hl], fun j y u hy hu => ?_⟩
  cases j with
  | zero => simp at hy hu; subst hy hu; exact hr
  | succ j => exact hrs j y u (by simpa using hy) (by simpa using hu)
theorem Z4r (hl : laidOutB P = true) {W' : World} (hb : Below W.heap.size W W') : ∀ (ts : List Nat) (vs : List Value) (ds : List (DataW H)) (p : List MemPlace), ts.all (fun t => P.readableRec t && decide (t < P.types.size)) = true → DataW.TrodAll enc P W 0 (fun _ => true) true ts vs ds p →
  DataW.TrodAll enc P W' 0 (fun b => decide (b < W.heap.size)) true ts vs ds p
 | [], vs, ds, p, hs, h => by
  cases vs <;> cases ds <;> simp [DataW.TrodAll] at h ⊢
  exact h
 | t :: ts, vs, ds, p, hs, h => by
  obtain ⟨v, vs', d, ds', p1, q, rfl, rfl, rfl, h1, h2⟩ := trodAll_cons h
  simp only [List.all_cons, Bool.and_eq_true, decide_eq_true_eq] at hs
  refine ⟨p1, q, Below.trod hl hs.1.1 hs.1.2 h1 hb (fun x hx => ?_), Z4r hl hb ts vs' ds' q (by simpa using hs.2) h2, rfl⟩
  obtain ⟨n, hn⟩ := h1
  exact DataW.trod_lt n _ _ _ hn x hx
theorem law_callsU (hlay : Lays (OldU W) W) (hT : Zo P T) (hl : laidOutB P = true) {m f : Nat} {ts : List Nat} (law : ∀ xs, ShapeAU T m ts xs → FPure P f xs (.v (.bool true))) (hs : ts.all (Z7k T m) = true) (hr : ts.all (fun t => P.readableRec t && decide (t < P.types.size)) = true)
  {vs : List Value} {ds : List (DataW H)} {p : List MemPlace} {r : Reach} {b0 : Nat} (h : DataW.TrodAll enc P W 0 (fun _ => true) true ts vs ds p) (hval : ∀ (j : Nat) t v, ts[j]? = some t → vs[j]? = some v → Value.okWide P W r b0 t v)
  (hw : (DataW.weightsEach P ts ds).all (· ≤ upBytes) = true) : Calls P f vs.toArray W fun e W' => e = .returned (.bool true) ∧ Below W.heap.size W W' ∧ DataW.TrodAll enc P W' 0 (fun b => decide (b < W.heap.size)) true ts vs ds p := by
 obtain ⟨xs, hx, hlen, hrep⟩ := Z96 hT ts vs ds p hs h hval hw
 have hrep0 : HRep (fun _ => none) (OldU W) W [] :=
  ⟨fun id ob ho => by simp at ho, fun _ _ => rfl, fun id id' g h1 => (by obtain ⟨_, h1, _⟩ := h1; cases h1), fun id g h1 => (by obtain ⟨_, h1, _⟩ := h1; cases h1), fun b hb => hb, hlay⟩
 refine (law xs hx (fun _ => none) (OldU W) W vs hrep0 hlen hrep).mono ?_
 rintro e W' ⟨ret, h', σ', F', rv, ⟨rfl, rfl⟩, rfl, h1, h2, h3, h4, h5, h6, h7⟩
 have hb : Below W.heap.size W W' := ⟨h3.os, h3.tape, h3.output, h3.size, fun k hk => h3.block k hk (fun ⟨id, k, h, _⟩ => by cases h)⟩
 exact ⟨by rw [RepV.val h1], hb, Z4r hl hb ts vs ds p hr h⟩
end
end Go.Proofs.YtplgphblmeceoaaGreatDoor.Eng.Up
set_option linter.unusedVariables false
set_option linter.unusedSimpArgs false
namespace Go.Proofs.YtplgphblmeceoaaGreatDoor.Eng.Up
open Go.Proofs.YtplgphblmeceoaaGreatDoor.Eng
open Go Go.RowKit
def Zfq (S : Nat → Ty → Bool) : List Nat → Ty → Bool
 | [e], ty => S e ty
 | e :: e2 :: r, .pair a b => S e a && Zfq S (e2 :: r) b
 | _, _ => false
def tyBU (T : Tab) : Nat → Nat → Ty → Bool
 | 0, _, _ => false
 | m + 1, t, .int k => (match T t with | some ⟨.int k', _, _, _⟩ => decide (k' = k) | _ => false)
 | m + 1, t, .byte => (match T t with | some ⟨.int k', _, _, _⟩ => decide (k' = .u8) | _ => false)
 | m + 1, t, .bool => (match T t with | some ⟨.bool, _, _, _⟩ => true | _ => false)
 | m + 1, t, .str => (match T t with | some ⟨.str, _, _, _⟩ => true | _ => false)
 | m + 1, t, .slice u => (match T t with | some ⟨.slice e, _, _, _⟩ => (match T e with | some i => decide (i.size = u.size) && tyBU T m e u | none => false) | _ => false)
 | m + 1, t, .one u => (match T t with | some ⟨.struct fs, _, _, _⟩ => Zfq (tyBU T m) (fs.map (·.2)) u | _ => false)
 | m + 1, t, .pair a b => (match T t with | some ⟨.struct fs, _, _, _⟩ => Zfq (tyBU T m) (fs.map (·.2)) (.pair a b) | _ => false)
 | m + 1, _, .ptr _ => false
 | m + 1, _, .nilS => false
 | m + 1, _, .nilI => false
 | m + 1, _, .adr => false
 | m + 1, _, .mp _ => false
 | m + 1, _, .mq _ => false
 | m + 1, _, .fnc _ => false
 | m + 1, _, .clo _ _ => false
 | m + 1, _, .ref _ => false
def InLU (S : Nat → (ty : Ty) → ty.den → Prop) : List Nat → (ty : Ty) → ty.den → Prop
 | [e], ty, x => S e ty x
 | e :: e2 :: r, .pair a b, x => S e a x.1 ∧ InLU S (e2 :: r) b x.2
 | _, _, _ => True
def InDU (T : Tab) : Nat → Nat → (ty : Ty) → ty.den → Prop
 | 0, _, _, _ => True
 | m + 1, t, .int k, x => (Lit.int k x).wf = true
 | m + 1, t, .str, x => ByteArray.size x ≤ upBytes
 | m + 1, t, .slice u, xs => (match T t with | some ⟨.slice e, _, _, _⟩ => (match T e with | some i => List.length xs * i.bytes ≤ upBytes ∧ ∀ x : u.den, List.Mem x xs → InDU T m e u x | none => True) | _ => True)
 | m + 1, t, .one u, x => (match T t with | some ⟨.struct fs, _, _, _⟩ => InLU (InDU T m) (fs.map (·.2)) u x | _ => True)
 | m + 1, t, .pair a b, x => (match T t with | some ⟨.struct fs, _, _, _⟩ => InLU (InDU T m) (fs.map (·.2)) (.pair a b) x | _ => True)
 | _, _, _, _ => True
theorem Z90 {S : Nat → List AV → Prop} {B : Nat → Ty → Bool} {D : Nat → (ty : Ty) → ty.den → Prop} (h : ∀ e ty xs, B e ty = true → S e xs → ∃ x : ty.den, xs = ty.cells x ∧ D e ty x) :
  ∀ (es : List Nat) (ty : Ty) (xs : List AV), Zfq B es ty = true → Zaq S es xs → ∃ x : ty.den, xs = ty.cells x ∧ InLU D es ty x := by
 intro es
 induction es with
 | nil => intro ty xs hb _; cases ty <;> cases hb
 | cons e r ih =>
  intro ty xs hb hs
  obtain ⟨a, b, rfl, ha, hb'⟩ := hs
  cases r with
  | nil =>
   have e0 : b = [] := hb'
   subst e0
   have hb2 : B e ty = true := by cases ty <;> exact hb
   obtain ⟨x, h1, h2⟩ := h e ty a hb2 ha
   refine ⟨x, by rw [h1, List.append_nil], ?_⟩
   cases ty <;> exact h2
  | cons e2 r =>
   cases ty with
   | pair p q =>
    simp only [Zfq, Bool.and_eq_true] at hb
    obtain ⟨x, h1, h2⟩ := h e p a hb.1 ha
    obtain ⟨y, h3, h4⟩ := ih q b hb.2 hb'
    exact ⟨(x, y), by rw [h1, h3]; rfl, h2, h4⟩
   | int _ => cases hb
   | byte => cases hb
   | bool => cases hb
   | str => cases hb
   | slice _ => cases hb
   | one _ => cases hb
   | ptr _ => cases hb
   | nilS => cases hb
   | nilI => cases hb
   | adr => cases hb
   | mp t => cases hb
   | mq t => cases hb
   | fnc _ => cases hb
   | clo _ _ => cases hb
   | ref _ => cases hb
theorem Ze4 {u : Ty} {D : u.den → Prop} : ∀ {es : List (List AV)}, (∀ c ∈ es, ∃ x : u.den, c = u.cells x ∧ D x) → ∃ l : List u.den, es = l.map u.cells ∧ ∀ x ∈ l, D x
 | [], _ => ⟨[], rfl, fun x h => by cases h⟩
 | c :: es, h => by
  obtain ⟨a, rfl, ha⟩ := h c (List.mem_cons_self ..)
  obtain ⟨l, rfl, hl⟩ := Ze4 (D := D) (fun c hc => h c (List.mem_cons_of_mem _ hc))
  refine ⟨a :: l, rfl, fun x hx => ?_⟩
  rcases List.mem_cons.1 hx with rfl | hx
  ·exact ha
  ·exact hl x hx
theorem Z7m {T : Tab} : ∀ (m t : Nat) (ty : Ty) (xs : List AV), tyBU T m t ty = true → ShapeCU T m t xs → ∃ x : ty.den, xs = ty.cells x ∧ InDU T m t ty x
 | 0, _, _, _, h, _ => by cases h
 | m + 1, t, ty, xs, h, hs => by
  have ih := Z7m (T := T) m
  unfold ShapeCU at hs
  cases ty with
  | int k =>
   simp only [tyBU] at h
   split at h
   ·rename_i ht
    rw [ht] at hs
    obtain ⟨n, rfl, hn⟩ := hs
    rw [of_decide_eq_true h] at hn ⊢
    exact ⟨n, rfl, hn⟩
   ·cases h
  | byte =>
   simp only [tyBU] at h
   split at h
   ·rename_i ht
    rw [ht] at hs
    obtain ⟨n, rfl, hn⟩ := hs
    rw [of_decide_eq_true h] at hn ⊢
    have hn2 : 0 ≤ n ∧ n < 256 := by
     have h3 : decide (IntKind.u8.min ≤ n) && decide (n ≤ IntKind.u8.max) := hn
     rw [Bool.and_eq_true, decide_eq_true_eq, decide_eq_true_eq] at h3
     have e1 : IntKind.u8.min = 0 := rfl
     have e2 : IntKind.u8.max = 255 := rfl
     omega
    refine ⟨UInt8.ofNat n.toNat, ?_, trivial⟩
    have : ((UInt8.toNat (UInt8.ofNat n.toNat) : Nat) : Int) = n := by
     rw [UInt8.toNat_ofNat']
     omega
    simp only [Ty.cells]
    rw [this]
   ·cases h
  | bool =>
   simp only [tyBU] at h
   split at h
   ·rename_i ht
    rw [ht] at hs
    obtain ⟨n, rfl⟩ := hs
    exact ⟨n, rfl, trivial⟩
   ·cases h
  | str =>
   simp only [tyBU] at h
   split at h
   ·rename_i ht
    rw [ht] at hs
    obtain ⟨n, rfl, hn⟩ := hs
    exact ⟨n, rfl, hn⟩
   ·cases h
  | slice u =>
   simp only [tyBU] at h
   split at h
   ·rename_i e _ _ _ ht
    simp only [ht] at hs
    split at h
    ·rename_i i hi
     simp only [hi] at hs
     obtain ⟨es, rfl, h1, h2⟩ := hs
     rw [Bool.and_eq_true, decide_eq_true_eq] at h
     obtain ⟨l, rfl, hl⟩ := Ze4 (u := u) (fun c hc => ih e u c h.2 (h2 c hc))
     refine ⟨l, by rw [h.1]; rfl, ?_⟩
     simp only [InDU, ht, hi]
     exact ⟨by simpa using h1, hl⟩
    ·cases h
   ·cases h
  | one u =>
   simp only [tyBU] at h
   split at h
   ·rename_i ht
    simp only [ht] at hs
    obtain ⟨x, h1, h2⟩ := Z90 ih _ u xs h hs
    exact ⟨x, h1, by simp only [InDU, ht]; exact h2⟩
   ·cases h
  | pair a b =>
   simp only [tyBU] at h
   split at h
   ·rename_i ht
    simp only [ht] at hs
    obtain ⟨x, h1, h2⟩ := Z90 ih _ (.pair a b) xs h hs
    exact ⟨x, h1, by simp only [InDU, ht]; exact h2⟩
   ·cases h
  | ptr _ => cases h
  | nilS => cases h
  | nilI => cases h
  | adr => cases h
  | mp t => cases h
  | mq t => cases h
  | fnc _ => cases h
  | clo _ _ => cases h
  | ref _ => cases h
theorem Zeq {T : Tab} {m t : Nat} {ty : Ty} {x : AV} (h : tyBU T m t ty = true) (hs : Z6e T m t x) : ∃ y : ty.den, x = ty.av y ∧ InDU T m t ty y := by
 unfold Z6e at hs
 cases m with
 | zero => cases h
 | succ m =>
  cases hagg : ty.isAgg with
  | true =>
   have : ∃ fs a b c, T t = some ⟨.struct fs, a, b, c⟩ := by
    cases ty with
    | one u => simp only [tyBU] at h; split at h; (· rename_i ht; exact ⟨_, _, _, _, ht⟩); (· cases h)
    | pair u v => simp only [tyBU] at h; split at h; (· rename_i ht; exact ⟨_, _, _, _, ht⟩); (· cases h)
    | int _ => cases hagg
    | byte => cases hagg
    | bool => cases hagg
    | str => cases hagg
    | slice _ => cases hagg
    | ptr _ => cases hagg
    | nilS => cases hagg
    | nilI => cases hagg
    | adr => cases hagg
    | mp t => cases hagg
    | mq t => cases hagg
    | fnc _ => cases hagg
    | clo _ _ => cases hagg
    | ref _ => cases hagg
   obtain ⟨fs, a, b, c, ht⟩ := this
   simp only [ht] at hs
   obtain ⟨xs, rfl, hx⟩ := hs
   obtain ⟨y, h1, h2⟩ := Z7m _ t ty xs h hx
   exact ⟨y, by rw [Ty.av_agg hagg, h1], h2⟩
  | false =>
   have hns : ∀ fs a b c, T t ≠ some ⟨.struct fs, a, b, c⟩ := by
    intro fs a b c ht
    cases ty with
    | one u => cases hagg
    | pair u v => cases hagg
    | ptr _ => cases h
    | nilS => cases h
    | nilI => cases h
    | adr => cases h
    | mp t => cases h
    | mq t => cases h
    | fnc _ => cases h
    | clo _ _ => cases h
    | ref _ => cases h
    | int _ => simp [tyBU, ht] at h
    | byte => simp [tyBU, ht] at h
    | bool => simp [tyBU, ht] at h
    | str => simp [tyBU, ht] at h
    | slice _ => simp [tyBU, ht] at h
   split at hs
   ·rename_i ht; exact absurd ht (hns _ _ _ _)
   ·obtain ⟨y, h1, h2⟩ := Z7m _ t ty _ h hs
    rw [Ty.cells_leaf hagg] at h1
    exact ⟨y, by simpa using h1, h2⟩
def Zig (T : Tab) (m : Nat) : List Nat → List Ty → Bool
 | [], [] => true
 | t :: ts, u :: us => tyBU T m t u && Zig T m ts us
 | _, _ => false
def InAU (T : Tab) (m : Nat) : List Nat → (us : List Ty) → denL us → Prop
 | [t], [u], x => InDU T m t u x
 | t :: ts, u :: v :: us, x => InDU T m t u x.1 ∧ InAU T m ts (v :: us) x.2
 | _, _, _ => True
theorem Zer {T : Tab} {m : Nat} : ∀ (ts : List Nat) (us : List Ty) (xs : List AV), Zig T m ts us = true → ShapeAU T m ts xs → ∃ x : denL us, xs = avL us x ∧ InAU T m ts us x := by
 intro ts
 induction ts with
 | nil =>
  intro us xs h hs
  cases us with
  | nil => exact ⟨(), hs, trivial⟩
  | cons u us => cases h
 | cons t ts ih =>
  intro us xs h hs
  obtain ⟨x, r, rfl, h1, h2⟩ := hs
  cases us with
  | nil => cases h
  | cons u us =>
   simp only [Zig, Bool.and_eq_true] at h
   obtain ⟨y, rfl, hy⟩ := Zeq h.1 h1
   obtain ⟨z, hz, hz2⟩ := ih us r h.2 h2
   cases us with
   | nil =>
    cases ts with
    | nil => exact ⟨y, by rw [hz]; rfl, hy⟩
    | cons _ _ => cases h.2
   | cons v us =>
    refine ⟨(y, z), by rw [hz]; rfl, ?_⟩
    cases ts with
    | nil => cases h.2
    | cons _ _ => exact ⟨hy, hz2⟩
theorem law_typedU {P : Program} {T : Tab} {f m : Nat} {ts : List Nat} {us : List Ty} {run : denL us → Option Bool} (ok : FnOK P f ⟨us, [.bool], run⟩) (hty : Zig T m ts us = true) (law : ∀ x, InAU T m ts us x → run x = some true) (xs : List AV) (h : ShapeAU T m ts xs) : FPure P f xs (.v (.bool true)) := by
 obtain ⟨x, rfl, hx⟩ := Zer ts us xs hty h
 exact ok.2 x true (law x hx)
end Go.Proofs.YtplgphblmeceoaaGreatDoor.Eng.Up
