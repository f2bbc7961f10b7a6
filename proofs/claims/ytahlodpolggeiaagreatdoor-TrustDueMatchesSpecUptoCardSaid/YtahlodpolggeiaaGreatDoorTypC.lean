/-
  Part of a proof; nothing here is trusted.
-/
import Derived.Test.YtahlodpolggeiaaGreatDoorTypB
import Derived.Test.YtahlodpolggeiaaGreatDoorEngB
noncomputable section
set_option linter.unusedVariables false
set_option linter.unusedSimpArgs false
namespace Go.Proofs.YtahlodpolggeiaaGreatDoor.Eng
open Go Go.RowKit
theorem swapL_eq {α : Type} : ∀ (l : List α) (L i : Nat), L + 1 < l.length → (swapL l L)[i]? = l[swpN L i]?
 | a :: b :: r, 0, i, _ => by
  match i with
  | 0 => rfl
  | 1 => rfl
  | i + 2 =>
   have : swpN 0 (i + 2) = i + 2 := by simp [swpN]
   rw [this]; rfl
 | [a], 0, _, h => by simp at h
 | [], _, _, h => by simp at h
 | a :: r, L + 1, i, h => by
  have h1 : L + 1 < r.length := by simpa using h
  have e : swapL (a :: r) (L + 1) = a :: swapL r L := by cases r <;> rfl
  rw [e]
  match i with
  | 0 => simp [swpN]
  | i + 1 =>
   have e2 : swpN (L + 1) (i + 1) = swpN L i + 1 := by
    unfold swpN
    by_cases h2 : i = L
    ·simp [h2]
    ·by_cases h3 : i = L + 1
     ·simp [h3]
     ·simp [h2, h3]
   rw [e2, List.getElem?_cons_succ, List.getElem?_cons_succ]
   exact swapL_eq r L i h1
theorem swapL_len {α : Type} : ∀ (l : List α) (L : Nat), (swapL l L).length = l.length
 | a :: b :: r, 0 => rfl
 | [a], 0 => rfl
 | [], 0 => rfl
 | [], _ + 1 => rfl
 | a :: r, L + 1 => by
  have e : swapL (a :: r) (L + 1) = a :: swapL r L := by cases r <;> rfl
  rw [e, List.length_cons, List.length_cons, swapL_len r L]
theorem swpN_swpN (L i : Nat) : swpN L (swpN L i) = i := by
 unfold swpN
 by_cases h2 : i = L
 ·simp [h2]
 ·by_cases h3 : i = L + 1
  ·simp [h3]
  ·simp [h2, h3]
theorem swpN_inj {L i j : Nat} (h : swpN L i = swpN L j) : i = j := by rw [← swpN_swpN L i, h, swpN_swpN]
theorem swpN_ge {L i n : Nat} (hL : L + 1 < n) (h : n ≤ i) : swpN L i = i := by
 unfold swpN
 simp [show i ≠ L by omega, show i ≠ L + 1 by omega]
def swpA (L : Nat) : AV → AV
 | .own i sz off len => .own (swpN L i) sz off len
 | .ptr i k sz j => .ptr (swpN L i) k sz j
 | .nm i k => .nm (swpN L i) k
 | x => x
section
variable {P : Program} {C : Cx} {X : Ctx} {σ : Nat → Option Blk} {F : Nat → Prop} {a : Act} {w : World} {β : Type}
theorem Rep.swap {s : St} (hm : X.m = 0) {L : Nat} (hL : L + 1 < s.heap.length) (hr : Rep X s a w) : Rep X ⟨envSub (swpA L) s.env, swapL (s.heap.map (AObj.sub (swpA L))) L⟩ a w := by
 obtain ⟨σ, F, hr⟩ := hr
 have hσ : ∀ i, (fun i => σ (swpN L i)) (swpN L i) = σ i := fun i => by simp only [swpN_swpN]
 have hV : ∀ x y, RepV σ F w x y → RepV (fun i => σ (swpN L i)) F w (x.sub (swpA L)) y := by
  intro x y h
  refine h.sub (fun _ _ h => h) (fun id sz off len y h => ?_) (fun id i sz j y h => ?_) (fun id q y h => ?_)
  ·simp only [swpA]
   cases h with
   | f _ _ h => cases h
   | own0 _ _ h => exact .own0 _ _ ((hσ _).trans h)
   | own _ _ _ _ g b c n h hn hc => exact .own _ _ _ _ g b c n ((hσ _).trans h) hn hc
   | ownz _ _ _ g b c n a h hn hc => exact .ownz _ _ _ g b c n a ((hσ _).trans h) hn hc
  ·simp only [swpA]
   cases h with
   | f _ _ h => cases h
   | ptr _ _ _ _ g b c n h => exact .ptr _ _ _ _ g b c n ((hσ _).trans h)
  ·simp only [swpA]
   cases h with
   | f _ _ h => cases h
   | nm _ _ gs V h h1 => exact .nm _ _ gs V ((hσ _).trans h) h1
 have hlen : (swapL (s.heap.map (AObj.sub (swpA L))) L).length = s.heap.length := by rw [swapL_len, List.length_map]
 refine ⟨fun i => σ (swpN L i), F, hr.defers, hr.size, fun i => by rw [envGet_sub]; exact hV _ _ (hr.env i), ⟨fun id ob ho => ?_, fun id hid => ?_, fun id id' g h1 h2 => swpN_inj (hr.heap.inj _ _ _ h1 h2), fun id g h => hr.heap.lt _ _ h, hr.heap.flt, hr.heap.lay⟩, hr.keep, fun id g h => hr.own _ _ h, hr.fnew, fun id hid => absurd (hm ▸ hid : id < 0) (Nat.not_lt_zero _), by rw [hm]; exact Nat.zero_le _⟩
 ·rw [swapL_eq _ _ _ (by rw [List.length_map]; exact hL), List.getElem?_map, Option.map_eq_some_iff] at ho
  obtain ⟨q, hq, rfl⟩ := ho
  exact (hr.heap.obj _ _ hq).ren rfl (fun _ _ h => h) (fun _ h => ⟨h, rfl⟩) (fun _ _ => rfl) hV
 ·rw [hlen] at hid
  simp only [swpN_ge hL hid]
  exact hr.heap.out _ hid
theorem swap_imp {s : TSt} (hm : X.m = 0) {L : Nat} (hL : L + 1 < s.heap.length) : Imp X s.toSt (s.swap L).toSt := by
 intro a w hr
 have h1 := Rep.swap hm (L := L) (by simpa [TSt.toSt] using hL) hr
 have hrow : ∀ i, rowLen (s.swap L).heap (swpN L i) = rowLen s.heap i := fun i => by
  unfold rowLen
  rw [nth_eq, nth_eq]
  simp only [TSt.swap]
  rw [swapL_eq _ _ _ (by rw [List.length_map]; exact hL), swpN_swpN, List.getElem?_map]
  cases s.heap[i]? with
  | none => rfl
  | some q => cases q <;> rfl
 have ok : SubOK (swpA L) (swpS L) s.heap (s.swap L).heap := by
  refine ⟨fun i sz => ?_, fun i sz off len => .refl _, fun i k sz j => .refl _, fun i k => .refl _⟩
  simp only [swpA, swpS, SV.toAV]
  rw [hrow]; exact .refl _
 refine h1.weak ⟨fun i => ?_, ?_, fun i o o' ho ho' => ?_⟩
 ·simp only [envGet_sub, TSt.toSt, tget_ok, TSt.swap]
  rw [tget_map (SV.sub (swpS L)) rfl]
  exact sub_le ok _
 ·simp [TSt.toSt, TSt.swap, swapL_len]
 ·simp only [TSt.toSt] at ho ho'
  rw [swapL_eq _ _ _ (by simpa using hL), List.getElem?_map, List.getElem?_map] at ho
  simp only [List.getElem?_map] at ho'
  have e : (s.swap L).heap[i]? = (s.heap[swpN L i]?).map (TObj.sub (swpS L)) := by
   simp only [TSt.swap]
   rw [swapL_eq _ _ _ (by rw [List.length_map]; exact hL), List.getElem?_map]
  rw [e] at ho'
  cases hq : s.heap[swpN L i]? with
  | none => rw [hq] at ho; cases ho
  | some q =>
   rw [hq] at ho ho'
   simp only [Option.map_some] at ho ho'
   cases ho; cases ho'
   cases q with
   | box e cs => exact ⟨rfl, subL_le ok cs⟩
   | row e t xs => exact ObjLe.refl _
   | mapo t es => exact ObjLe.refl _
   | iter t es => exact ObjLe.refl _
   | tree e ei t pend es => exact ObjLe.refl _
   | dead => trivial
theorem swap_fr (W : List Nat) (s : TSt) (L : Nat) : WFr W s (s.swap L) := by
 intro i _
 simp only [TSt.swap]
 rw [tget_map (SV.sub (swpS L)) rfl]
 exact ⟨fun h => by rw [h]; rfl, fun t x h => .inr (by rw [h]; rfl), fun t x h => .inr (by rw [h]; rfl), fun g h => .inr (by rw [h]; rfl)⟩
theorem stepD_ok (hC : CxOK P C) {o : Oper} {W : List Nat} (hd : ∀ d, o.dst = some d → d ∈ W) (hdst : dB C.n o.dst = true → dOK X.n o.dst) {s : TSt} {K : TSt → Option β} {r : β} (h : exStepD C false o K s = some r) : opWPG P X o (lk X K r W s) s.toSt := by
 unfold exStepD at h
 split at h
 ·rename_i e; cases e
 ·rename_i hb _
  have hd' := hdst hb
  split at h
  ·rename_i fop args ts ho'; exact useC_ok hd (call_ok hC hd' ho') h
  ·rename_i e ho'; exact useC_ok hd (alloc_ok hC.T hd' ho') h
  ·rename_i e y ho'; exact useC_ok hd (box_ok hC.T hd' ho') h
  ·rename_i t parts ho'; exact useC_ok hd (build_ok hC.T hd' ho') h
  ·rename_i t len parts ho'; exact useC_ok hd (buildSlice_ok hC.T hd' ho') h
  ·rename_i t y z ho'; exact useC_ok hd (makeSlice_ok hC.T hd' ho') h
  ·rename_i t ho'; exact useC_ok hd (makeMap_ok hC hd' ho') h
  ·rename_i t x k b ho'; exact useC_ok hd (lookup_ok hC hd' ho') h
  ·rename_i t t' x ho'
   split at h
   ·rename_i y hy; exact useC_ok hd (convBytes_ok hC.T hd' ho' hy) h
   ·cases h
  ·cases h
 ·cases h
theorem walkB_Q {ops : Array Oper} {n : Nat} : ∀ (π : List (Nat × Bool)) (listed : Array Bool), walkB ops n π listed = true → ∃ l', walkQ ops n π listed = some l' ∧ walkB ops n [] l' = true
 | [], listed, h => ⟨listed, rfl, h⟩
 | (i, true) :: π, listed, h => by
  simp only [walkB, Bool.and_eq_true] at h
  obtain ⟨l', h1, h2⟩ := walkB_Q π _ h.2
  refine ⟨l', ?_, h2⟩
  simp only [walkQ]
  rw [show (decide (i < n) && (Region.ready .any ops listed).contains i && Region.free .any ops listed i) = true by simp only [Bool.and_eq_true]; exact h.1]
  exact h1
 | (i, false) :: π, listed, h => by
  simp only [walkB, Bool.and_eq_true] at h
  obtain ⟨l', h1, h2⟩ := walkB_Q π _ h.2
  refine ⟨l', ?_, h2⟩
  simp only [walkQ]
  rw [show (decide (i < n) && decide (Region.ready .any ops listed = [i])) = true by simp only [Bool.and_eq_true]; exact h.1]
  exact h1
theorem exRegF_ok (hC : CxOK P C) (hn : X.n = C.n) (hm : X.m = 0) {l : List Oper} {d : Nat × List (Nat × Bool) × Option (Nat × List (Nat × Bool) × Nat × List (Nat × Bool))} {K : TSt → Option β} {s : TSt} {r : β} (hB : regB l.toArray d = true) (h : exRegF C l d K s = some r) :
  ∃ π, π.length = d.1 ∧ d.1 ≤ l.toArray.size ∧ Region.noSelect l.toArray = true ∧ headB .any l.toArray d.1 = true ∧ DrawJ P X l.toArray d.1 π (Array.replicate l.toArray.size false) (lk X K r (dstsOf l) s) s.toSt := by
 obtain ⟨n, π, t⟩ := d
 have tailOk : ∀ {listed : Array Bool} {s' : TSt}, walkB l.toArray n [] listed = true → exOpsF C l (dropL l n) K s' = some r → WFr (dstsOf l) s s' → DrawJ P X l.toArray n [] listed (lk X K r (dstsOf l) s) s'.toSt := by
  intro listed s' hw hx hf
  refine DrawJ.nil hw ?_
  rw [dropL_eq] at hx
  have h1 := exOpsF_ok hC hn hm l (l.drop n) K s' r (fun o ho => List.mem_of_mem_drop ho) hx
  intro Qc a w hK hr
  have h2 := h1 Qc a w (fun s2 a' w' ⟨s3, h3, h4, h5⟩ hr' => hK s2 a' w' ⟨s3, h3, h4, hf.trans h5 (fun _ h => h) (fun _ h => h)⟩ hr') hr
  simpa using h2
 cases t with
 | none =>
  simp only [regB, drawB, Bool.and_eq_true, decide_eq_true_eq] at hB
  obtain ⟨⟨⟨⟨hsel, hhd⟩, hl⟩, hn'⟩, hw⟩ := hB
  obtain ⟨l', hw1, hw2⟩ := walkB_Q _ _ hw
  refine ⟨π, hl, hn', hsel, hhd, ?_⟩
  have h1 := exDrawF_ok (r := r) (rest := []) (K' := lk X K r (dstsOf l) s) (s0 := s) hC hn hm hsel hhd π _ s hw1 h (.refl _ _) (fun s' hs' hf => tailOk hw2 hs' hf)
  rwa [List.append_nil] at h1
 | some t =>
  obtain ⟨i, π1, j, π2⟩ := t
  simp only [regB, draw2B, Bool.and_eq_true, decide_eq_true_eq] at hB
  obtain ⟨⟨⟨⟨⟨⟨⟨hsel, hhd⟩, hl⟩, hl2⟩, hn'⟩, hi⟩, hj⟩, hw⟩ := hB
  split at hw
  ·rename_i l' hw1
   simp only [Bool.and_eq_true, decide_eq_true_eq] at hw
   obtain ⟨⟨hr, hwi⟩, hwj⟩ := hw
   obtain ⟨li, hi1, hi2⟩ := walkB_Q _ _ hwi
   obtain ⟨lj, hj1, hj2⟩ := walkB_Q _ _ hwj
   refine ⟨π ++ (i, false) :: π1, by simp; omega, hn', hsel, hhd, ?_⟩
   refine exDrawF_ok (r := r) (K' := lk X K r (dstsOf l) s) (s0 := s) hC hn hm hsel hhd π _ s hw1 h (.refl _ _) (fun s' hs' hf => ?_)
   simp only [exTwoF, nthOp_eq] at hs'
   split at hs'
   ·rename_i oi oj hoi hoj
    split at hs'
    ·rename_i hgi hgj
     obtain ⟨h1, h2⟩ := both_some hs'
     have hoi' : l.toArray[i]? = some oi := by rw [List.getElem?_toArray]; exact hoi
     have hoj' : l.toArray[j]? = some oj := by rw [List.getElem?_toArray]; exact hoj
     have mi : oi ∈ l := List.mem_of_getElem? hoi
     have mj : oj ∈ l := List.mem_of_getElem? hoj
     refine DrawJ.two (rest' := π2) hoi' hoj' hi hj hr hgi hgj hl2 ?_ ?_
     ·refine (stepD_ok hC (fun d hd => dstsOf_mem mi hd) (fun hb => hn ▸ dOK_of hb) h1).mono ?_
      rintro s2 ⟨s3, h3, h4, h5⟩
      have h6 := exDrawF_ok (r := r) (rest := []) (K' := lk X K r (dstsOf l) s) (s0 := s) hC hn hm hsel hhd π1 _ s3 hi1 h4 (hf.trans h5 (fun _ h => h) (fun _ h => h)) (fun s' hs' hf => tailOk hi2 hs' hf)
      rw [List.append_nil] at h6
      exact DrawJ.from h3 h6
     ·refine (stepD_ok hC (fun d hd => dstsOf_mem mj hd) (fun hb => hn ▸ dOK_of hb) h2).mono ?_
      rintro s2 ⟨s3, h3, h4, h5⟩
      have h6 := exDrawF_ok (r := r) (rest := []) (K' := lk X K r (dstsOf l) s) (s0 := s) hC hn hm hsel hhd π2 _ s3 hj1 h4 (hf.trans h5 (fun _ h => h) (fun _ h => h)) (fun s' hs' hf => by
       unfold swapF at hs'
       split at hs'
       ·rename_i hle
        exact DrawJ.from (swap_imp hm (Nat.le_of_ble_eq_true hle)) (tailOk hj2 hs' (hf.trans (swap_fr _ _ _) (fun _ h => h) (fun _ h => h)))
       ·exact tailOk hj2 hs' hf)
      rw [List.append_nil] at h6
      exact DrawJ.from h3 h6
    ·cases hs'
   ·cases hs'
  ·cases hw
theorem WP.draw2 {id : Nat} {Q : Exit → St → Prop} {l : List Oper} {n : Nat} {π : List (Nat × Bool)} {s : St} (hm : P.follows .mixedOrders = true) (hl : π.length = n) (hn : n ≤ l.toArray.size)
  (hQ : ∀ c s, ¬ Q (.panic c) s)
  (h : DrawJ P X l.toArray n π (Array.replicate l.toArray.size false) (Q .normal) s) : WP P X (.region id l.toArray true) Q s := by
 intro a w hr
 refine wp_region_any hm ?_
 have inv0 : HeadInv .any l.toArray n (Array.replicate l.toArray.size false) :=
  ⟨by simp, fun j oj _ hl => (by rw [getD_replicate_false] at hl; cases hl), fun t _ ht => getD_in (by simpa using ht) (getD_replicate_false _ _)⟩
 have H := h (fun e a w => ∃ s, Q e s ∧ Rep X s a w) a { w with drawn := w.drawn + 1 } (fun c a b w ⟨s, h1, _⟩ => absurd h1 (hQ c s)) (fun s' a' w' h1 h2 => ⟨s', h1, h2⟩) hr.drawn inv0
 have hsz : l.toArray.size = π.length + (l.toArray.size - n) := by omega
 have H2 := any_of_T (g := l.toArray.size - n) (fun listed a' w' hL => by
  have := wpAny_of_seq (md := .any) (Q' := fun e a w => ∃ s, Q e s ∧ Rep X s a w) (l.toArray.toList.drop n) n listed a' w' (fun j => by simp [List.getElem?_drop]) (by simpa using hL.1) hL.2
  simpa using this) _ _ _ _ H
 rwa [← hsz] at H2
end
end Go.Proofs.YtahlodpolggeiaaGreatDoor.Eng
set_option linter.unusedVariables false
set_option linter.unusedSimpArgs false
namespace Go.Proofs.YtahlodpolggeiaaGreatDoor.Eng
open Go Go.RowKit
section
variable {P : Program} {C : Cx} {X : Ctx} {β : Type} {ops : Array Oper} {n : Nat} {listed : Array Bool} {K : St → Prop} {s : St}
def DrawT (P : Program) (X : Ctx) (ops : Array Oper) (n f : Nat) (listed : Array Bool) (K : St → Prop) (s : St) : Prop :=
 ∀ (Qc : Exit → Act → World → Prop) a w, (∀ c a b w, Qc (.panic c) a w → Qc (.panic c) b w) → (∀ s' a' w', K s' → Rep X s' a' w' → Qc .normal a' w') → Rep X s a w → HeadInv .any ops n listed →
  anyT P .any ops Qc n (fun listed a w => Region.seqB .any ops (ops.size - n) n listed = true ∧ wpList P ops Qc (ops.toList.drop n) a w) f listed a w (fun _ => True)
theorem DrawT.nil (hw : Region.seqB .any ops (ops.size - n) n listed = true) (h : WPO P X ops (ops.toList.drop n) K s) : DrawT P X ops n 0 listed K s := by
 intro Qc a w hQ hK hr inv
 exact ⟨hw, h Qc a w hK hr⟩
theorem DrawT.from {s' : St} {f : Nat} (h : ∀ a w, Rep X s a w → Rep X s' a w) (k : DrawT P X ops n f listed K s') : DrawT P X ops n f listed K s :=
 fun Qc a w hQ hK hr inv => k Qc a w hQ hK (h a w hr) inv
theorem DrawT.take {i f : Nat} {o : Oper} (hi : ops[i]? = some o) (hs : Region.noSelect ops = true) (hh : headB .any ops n = true) (hin : i < n) (hr : (Region.ready .any ops listed).contains i = true) (hf : Region.free .any ops listed i = true)
  {x : AV} (hd : dOK X.n o.dst) (hy : ∀ σ F a w, RepAt X σ F s a w → ∃ v, YieldsIf P ops (fun _ => True) o v a ∧ RepV σ F w x v) (h : DrawT P X ops n f (listed.setIfInBounds i true) K (s.put o.dst x)) : DrawT P X ops n (f + 1) listed K s := by
 intro Qc a w hQ hK hrep inv
 obtain ⟨σ, F, hat⟩ := hrep
 obtain ⟨v, hv, hx⟩ := hy σ F a w hat
 have hr' : i ∈ Region.ready .any ops listed := by simpa using hr
 exact anyT_first hi (Region.noSelect_spec hs) hh hin (fun _ _ _ h => seqB_done h) (fun c a w h => hQ c _ _ w h) f listed a w inv (Region.free_spec hi hf) hr' hv trivial
  (h Qc _ w hQ hK ⟨σ, F, hat.put hd hx⟩ (inv.set hr' hin))
def Branch (P : Program) (X : Ctx) (ops : Array Oper) (n f : Nat) (listed : Array Bool) (K : St → Prop) (s : St) (i : Nat) : Prop :=
 i < n ∧ ∃ o, ops[i]? = some o ∧ ∀ (Qc : Exit → Act → World → Prop) (next : Act → World → Prop) a w, (∀ s' a' w', DrawT P X ops n f (listed.setIfInBounds i true) K s' → Rep X s' a' w' → next a' w') → Rep X s a w →
  if Region.wanted o (yielded ops a.tmps) then o.wp P a w next Qc else next (a.put o.dst undef) w
theorem DrawT.all {f : Nat} (hne : Region.ready .any ops listed ≠ []) (h : ∀ i ∈ Region.ready .any ops listed, Branch P X ops n f listed K s i) : DrawT P X ops n (f + 1) listed K s := by
 intro Qc a w hQ hK hrep inv
 refine ⟨hne, fun j hj => ?_⟩
 obtain ⟨hjn, o, ho, hb⟩ := h j hj
 refine ⟨hjn, ?_⟩
 have h1 := hb Qc (fun a' w' => True ∧ anyT P .any ops Qc n (fun listed a w => Region.seqB .any ops (ops.size - n) n listed = true ∧ wpList P ops Qc (ops.toList.drop n) a w) f (listed.setIfInBounds j true) a' w' (fun _ => True)) a w
  (fun s' a' w' hd hr' => ⟨trivial, hd Qc a' w' hQ hK hr' (inv.set hj hjn)⟩) hrep
 unfold wpOp
 simp only [ho]
 split
 ·rename_i hw; rw [if_pos hw] at h1; exact .inl h1
 ·rename_i hw; rw [if_neg hw] at h1; exact h1
theorem Branch.from {s' : St} {f i : Nat} (h : ∀ a w, Rep X s a w → Rep X s' a w) (k : Branch P X ops n f listed K s' i) : Branch P X ops n f listed K s i := by
 obtain ⟨h1, o, h2, h3⟩ := k
 exact ⟨h1, o, h2, fun Qc next a w hn hr => h3 Qc next a w hn (h a w hr)⟩
end
section
variable {P : Program} {C : Cx} {X : Ctx} {β : Type}
theorem still_cond (hC : CxOK P C) (hn : X.n = C.n) {l : List Oper} {o : Oper} {s' : TSt} {K : TSt → Option β} {r : β} (hst : stillO C.T o.op = true) (hx : exStepD C true o K s' = some r) :
  dOK X.n o.dst ∧ ((∃ (x : SV) (v : AV), (∀ σ F a w, RepAt X σ F s'.toSt a w → ∃ u, (∀ w', (execOp a.eval o).run P w' = .ok (.value u) w') ∧ RepV σ F w v u) ∧ AV.le v (x.toAV s'.heap) ∧ K (s'.put o.dst x) = some r)) := by
 unfold exStepD at hx
 split at hx
 ·rename_i hd _
  refine ⟨hn ▸ dOK_of hd, ?_⟩
  split at hx
  ·rename_i cnd p q ho'
   split at hx
   ·rename_i b hb
    obtain ⟨h1, h2⟩ := cb_some hx
    cases b with
    | true =>
     refine ⟨s'.ev p, s'.toSt.ev p, fun σ F a w hat => ?_, by rw [TSt.ev_ok]; exact .refl _, h1 rfl⟩
     have hv : a.eval cnd = .bool true := RepV.val ((show s'.toSt.ev cnd = AV.v (.bool true) by rw [TSt.ev_ok, boo_av hb]) ▸ hat.ev cnd)
     exact ⟨a.eval p, fun w' => by simp [execOp, ho', hv, asBool], hat.ev p⟩
    | false =>
     refine ⟨s'.ev q, s'.toSt.ev q, fun σ F a w hat => ?_, by rw [TSt.ev_ok]; exact .refl _, h2 rfl⟩
     have hv : a.eval cnd = .bool false := RepV.val ((show s'.toSt.ev cnd = AV.v (.bool false) by rw [TSt.ev_ok, boo_av hb]) ▸ hat.ev cnd)
     exact ⟨a.eval q, fun w' => by simp [execOp, ho', hv, asBool], hat.ev q⟩
   ·cases hx
  ·rename_i t parts ho'
   split at hx
   ·rename_i s1 x hb
    exact ⟨x, x.toAV s'.heap, build_val (X := X) hC.T ho' hb, .refl _, hx⟩
   ·cases hx
  ·have ht := exT1_ok (T := C.T) (s := s') (op := o.op)
   have fin : ∀ {x : SV} {c' : Prop} {x' : AV}, exVal C.T s'.toSt o.op = some (c', x') → c' → AV.le x' (x.toAV s'.heap) → K (s'.put o.dst x) = some r → _ := fun {x c' x'} he hc hle hk =>
    (⟨x, x', fun σ F a w hat => by
     obtain ⟨u, h1, h2⟩ := exVal_okR (R := fun _ _ => True) (.inr hst) hC.T hat he hc
     exact ⟨u, fun w' => h1 w' trivial, h2⟩, hle, hk⟩ : ∃ (x : SV) (v : AV), (∀ σ F a w, RepAt X σ F s'.toSt a w → ∃ u, (∀ w', (execOp a.eval o).run P w' = .ok (.value u) w') ∧ RepV σ F w v u) ∧ AV.le v (x.toAV s'.heap) ∧ K (s'.put o.dst x) = some r)
   cases hq : exT1 C.T s' o.op with
   | bad => rw [hq] at hx; cases hx
   | ok x =>
    rw [hq] at hx ht
    obtain ⟨c', x', he, hc, hle⟩ := ht
    exact fin he hc hle hx
   | cond c x =>
    rw [hq] at hx ht
    obtain ⟨hc, hx⟩ := ck_some hx
    obtain ⟨c', x', he, hc, hle⟩ := ht hc
    exact fin he hc hle hx
 ·rename_i hf; cases hf
 ·cases hx
theorem exPlanF_all (hC : CxOK P C) (hn : X.n = C.n) (hm : X.m = 0) {l : List Oper} {n : Nat} (hs : Region.noSelect l.toArray = true) (hh : headB .any l.toArray n = true) {tail : TSt → Option β} {r : β} {s0 : TSt} {K' : St → Prop}
  (hk : ∀ s' listed, tail s' = some r → WFr (dstsOf l) s0 s' → Region.seqB .any l.toArray (l.toArray.size - n) n listed = true → DrawT P X l.toArray n 0 listed K' s'.toSt) :
  ∀ (pl : Plan) (m : Bool) (f : Nat) (listed : Array Bool) (s : TSt), planB C.T l.toArray n pl m f listed = true → (pl.isNo = false → exPlanF C l tail pl s = some r) → WFr (dstsOf l) s0 s →
   (m = false → pl.isNo = false → DrawT P X l.toArray n f listed K' s.toSt) ∧ (∀ i ∈ pl.ids, ∃ f', f = f' + 1 ∧ Branch P X l.toArray n f' listed K' s.toSt i) := by
 intro pl
 induction pl with
 | done =>
  intro m f listed s hp hx hf
  simp only [planB, Bool.and_eq_true, Bool.not_eq_true', decide_eq_true_eq] at hp
  obtain ⟨⟨_, rfl⟩, h3⟩ := hp
  exact ⟨fun _ _ => hk s listed (hx rfl) hf h3, fun i hi => by cases hi⟩
 | no =>
  intro m f listed s hp hx hf
  exact ⟨fun _ h => (by cases h), fun i hi => by cases hi⟩
 | swp k pr ih =>
  intro m f listed s hp hx hf0
  have hx := hx rfl
  simp only [planB, Bool.and_eq_true, Bool.not_eq_true'] at hp
  obtain ⟨⟨hm0, hno⟩, hp⟩ := hp
  refine ⟨fun _ _ => ?_, fun i hi => by cases hi⟩
  simp only [exPlanF] at hx
  unfold swapF at hx
  split at hx
  ·rename_i hle
   have hL : s.heap.length - k + 1 < s.heap.length := by have := Nat.le_of_ble_eq_true hle; omega
   exact DrawT.from (swap_imp hm hL) ((ih false f listed _ hp (fun _ => hx) (hf0.trans (swap_fr _ _ _) (fun _ h => h) (fun _ h => h))).1 rfl hno)
  ·exact (ih false f listed s hp (fun _ => hx) hf0).1 rfl hno
 | take i pr ih =>
  intro m f listed s hp hx hf0
  have hx := hx rfl
  simp only [planB, Bool.and_eq_true, Bool.not_eq_true'] at hp
  obtain ⟨hm0, hp⟩ := hp
  refine ⟨fun _ _ => ?_, fun i hi => by cases hi⟩
  cases f with
  | zero => cases hp
  | succ f =>
   simp only [Bool.and_eq_true, decide_eq_true_eq] at hp
   obtain ⟨⟨⟨⟨hin, hr⟩, hfree⟩, hst⟩, hp⟩ := hp
   simp only [exPlanF] at hx
   split at hx
   ·rename_i o hi
    have hi' : l.toArray[i]? = some o := by rw [List.getElem?_toArray, ← nthOp_eq]; exact hi
    rw [hi'] at hst
    have ho : o ∈ l := List.mem_of_getElem? (by rw [← nthOp_eq]; exact hi)
    have hdm : ∀ d, o.dst = some d → d ∈ dstsOf l := fun d hd => dstsOf_mem ho hd
    have ihs : ∀ {s' : TSt}, WFr (dstsOf l) s0 s' → exPlanF C l tail pr s' = some r → DrawT P X l.toArray n f (listed.setIfInBounds i true) K' s'.toSt := fun {s'} h1 h2 => by
     have hno : pr.isNo = false := by
      cases pr with
      | no => cases h2
      | _ => rfl
     exact (ih false f _ s' hp (fun _ => h2) h1).1 rfl hno
    have step : ∀ {s' : TSt}, WFr (dstsOf l) s0 s' → (∀ a w, Rep X s'.toSt a w → Region.wanted o (yielded l.toArray a.tmps) = true) → exStepD C true o (exPlanF C l tail pr) s' = some r → DrawT P X l.toArray n (f + 1) listed K' s'.toSt := by
     intro s' hf hwant hx
     obtain ⟨hd', x, v, hv, hle, hx⟩ := still_cond (X := X) (l := l) hC hn hst hx
     refine DrawT.take hi' hs hh hin hr hfree hd' (x := x.toAV s'.heap) (fun σ F a w hat => ?_) ?_
     ·obtain ⟨u, h1, h2⟩ := hv σ F a w hat
      exact ⟨u, .inl ⟨hwant a w ⟨σ, F, hat⟩, fun w' _ => h1 w'⟩, RepV.le hle h2⟩
     ·rw [← TSt.put_ok]
      exact ihs (WFr.put hf hdm _) hx
    unfold exGuardF at hx
    split at hx
    ·rename_i hg
     exact step hf0 (fun a w hr => by simp [Region.wanted, hg]) hx
    ·rename_i j want hg
     split at hx
     ·rename_i d hj
      have hj' : (l.toArray[j]?).bind (·.dst) = some d := by rw [List.getElem?_toArray, ← nthDst_eq]; exact hj
      have hdj := nthDst_mem hj
      have wf1 : ∀ (v : SV), WFr (dstsOf l) s0 (s.put (some d) v) := fun v => WFr.put hf0 (fun i hi => by cases hi; exact hdj) v
      have skip : ∀ {s' : TSt}, WFr (dstsOf l) s0 s' → dOK X.n o.dst → (∀ a w, Rep X s'.toSt a w → Region.wanted o (yielded l.toArray a.tmps) = false) → exPlanF C l tail pr (s'.put o.dst undefS) = some r → DrawT P X l.toArray n (f + 1) listed K' s'.toSt := by
       intro s' hf hdst hno hx9
       have h9 := ihs (WFr.put hf hdm _) hx9
       rw [TSt.put_ok, undef_av] at h9
       exact DrawT.take hi' hs hh hin hr hfree hdst (fun σ F a w hat => ⟨undef, .inr ⟨hno a w ⟨σ, F, hat⟩, rfl⟩, .f _ _ (.v _)⟩) h9
      split at hx
      ·rename_i hu hdn
       rw [Bool.and_eq_true] at hdn
       have hu' := isUndef_ok hu
       refine skip hf0 (hn ▸ dOK_of hdn.2) (fun a w hr => ?_) hx
       have h1 := yielded_undef hj' (hn ▸ of_decide_eq_true hdn.1) (by simp only [TSt.toSt, tget_ok]; rw [hu']; rfl) hr
       simp [Region.wanted, hg, h1]
      ·rename_i hu hdn
       rw [Bool.and_eq_true] at hdn
       have hdl : d < X.n := hn ▸ of_decide_eq_true hdn.1
       split at hx
       ·rename_i b hb
        obtain ⟨h1, h2⟩ := gd_some hx
        have known : ∀ {b' : Bool} {a : Act} {w : World}, Rep X (s.put (some d) (.cst (.bool b'))).toSt a w → yielded l.toArray a.tmps j = some b' := fun {b' a w} hr =>
         yielded_known hj' hdl (s := (s.put (some d) (.cst (.bool b'))).toSt) (by simp only [TSt.toSt, tget_ok, TSt.put, tget, if_true]; rfl) hr
        by_cases e : b = want
        ·refine DrawT.from (know_imp (by rw [hb, e])) (step (wf1 _) (fun a w hr => ?_) (h1 e))
         simp [Region.wanted, hg, known hr]
        ·have e' : b = !want := by cases b <;> cases want <;> first | rfl | exact absurd rfl e
         refine DrawT.from (know_imp (b := !want) (by rw [hb, e'])) (skip (wf1 _) (hn ▸ dOK_of hdn.2) (fun a w hr => ?_) (h2 e'))
         simp [Region.wanted, hg, known hr]
       ·cases hx
      ·cases hx
     ·cases hx
   ·cases hx
 | alt i pa pb iha ihb =>
  intro m f listed s hp hx hf0
  have hx := hx rfl
  simp only [planB, Bool.and_eq_true] at hp
  obtain ⟨hrd, hp⟩ := hp
  cases f with
  | zero => cases hp
  | succ f =>
   simp only [Bool.and_eq_true, decide_eq_true_eq] at hp
   obtain ⟨⟨hin, hpa⟩, hpb⟩ := hp
   have hx2 : (match nthOp l i with
    | some o => exGuardF C l o (exOneF C o (exPlanF C l tail pa)) (exPlanF C l tail pa) s
    | none => none) = some r ∧ (pb.isNo = false → exPlanF C l tail pb s = some r) := by
    simp only [exPlanF] at hx
    cases hb : pb.isNo with
    | true => rw [hb] at hx; exact ⟨hx, fun h => by cases h⟩
    | false => rw [hb] at hx; obtain ⟨h1, h2⟩ := both_some hx; exact ⟨h1, fun _ => h2⟩
   obtain ⟨hx1, hxb⟩ := hx2
   have hbr := (ihb true (f + 1) listed s hpb hxb hf0).2
   have hone : Branch P X l.toArray n f listed K' s.toSt i := by
    split at hx1
    ·rename_i o hi
     have hi' : l.toArray[i]? = some o := by rw [List.getElem?_toArray, ← nthOp_eq]; exact hi
     have ho : o ∈ l := List.mem_of_getElem? (by rw [← nthOp_eq]; exact hi)
     have hdm : ∀ d, o.dst = some d → d ∈ dstsOf l := fun d hd => dstsOf_mem ho hd
     have ihs : ∀ {s' : TSt}, WFr (dstsOf l) s0 s' → exPlanF C l tail pa s' = some r → DrawT P X l.toArray n f (listed.setIfInBounds i true) K' s'.toSt := fun {s'} h1 h2 => by
      have hno : pa.isNo = false := by
       cases pa with
       | no => cases h2
       | _ => rfl
      exact (iha false f _ s' hpa (fun _ => h2) h1).1 rfl hno
     have step : ∀ {s' : TSt}, WFr (dstsOf l) s0 s' → (∀ a w, Rep X s'.toSt a w → Region.wanted o (yielded l.toArray a.tmps) = true) → exOneF C o (exPlanF C l tail pa) s' = some r → Branch P X l.toArray n f listed K' s'.toSt i := by
      intro s' hf hwant hx
      refine ⟨hin, o, hi', fun Qc next a w hnx hr => ?_⟩
      rw [if_pos (hwant a w hr)]
      unfold exOneF at hx
      split at hx
      ·rename_i hd
       refine (useR_ok hdm (exT2_ok hC hm (hn ▸ dOK_of hd)) hx) Qc next a w (fun s2 a' w' hl hr' => ?_) hr
       obtain ⟨s1, h1, h2, h3⟩ := hl
       exact hnx _ _ _ (ihs (hf.trans h3 (fun _ h => h) (fun _ h => h)) h2) (h1 a' w' hr')
      ·cases hx
     unfold exGuardF at hx1
     split at hx1
     ·rename_i hg
      exact step hf0 (fun a w hr => by simp [Region.wanted, hg]) hx1
     ·rename_i j want hg
      split at hx1
      ·rename_i d hj
       have hj' : (l.toArray[j]?).bind (·.dst) = some d := by rw [List.getElem?_toArray, ← nthDst_eq]; exact hj
       have hdj := nthDst_mem hj
       have wf1 : ∀ (v : SV), WFr (dstsOf l) s0 (s.put (some d) v) := fun v => WFr.put hf0 (fun i hi => by cases hi; exact hdj) v
       have skip : ∀ {s' : TSt}, WFr (dstsOf l) s0 s' → dOK X.n o.dst → (∀ a w, Rep X s'.toSt a w → Region.wanted o (yielded l.toArray a.tmps) = false) → exPlanF C l tail pa (s'.put o.dst undefS) = some r → Branch P X l.toArray n f listed K' s'.toSt i := by
        intro s' hf hdst hno hx9
        have h9 := ihs (WFr.put hf hdm _) hx9
        rw [TSt.put_ok, undef_av] at h9
        refine ⟨hin, o, hi', fun Qc next a w hnx hr => ?_⟩
        rw [if_neg (by simp [hno a w hr])]
        obtain ⟨σ, F, hr⟩ := hr
        exact hnx _ _ _ h9 ⟨σ, F, hr.put hdst (.f _ _ (.v _))⟩
       split at hx1
       ·rename_i hu hdn
        rw [Bool.and_eq_true] at hdn
        have hu' := isUndef_ok hu
        refine skip hf0 (hn ▸ dOK_of hdn.2) (fun a w hr => ?_) hx1
        have h1 := yielded_undef hj' (hn ▸ of_decide_eq_true hdn.1) (by simp only [TSt.toSt, tget_ok]; rw [hu']; rfl) hr
        simp [Region.wanted, hg, h1]
       ·rename_i hu hdn
        rw [Bool.and_eq_true] at hdn
        have hdl : d < X.n := hn ▸ of_decide_eq_true hdn.1
        split at hx1
        ·rename_i b hb
         obtain ⟨h1, h2⟩ := gd_some hx1
         have known : ∀ {b' : Bool} {a : Act} {w : World}, Rep X (s.put (some d) (.cst (.bool b'))).toSt a w → yielded l.toArray a.tmps j = some b' := fun {b' a w} hr =>
          yielded_known hj' hdl (s := (s.put (some d) (.cst (.bool b'))).toSt) (by simp only [TSt.toSt, tget_ok, TSt.put, tget, if_true]; rfl) hr
         by_cases e : b = want
         ·refine Branch.from (know_imp (by rw [hb, e])) (step (wf1 _) (fun a w hr => ?_) (h1 e))
          simp [Region.wanted, hg, known hr]
         ·have e' : b = !want := by cases b <;> cases want <;> first | rfl | exact absurd rfl e
          refine Branch.from (know_imp (b := !want) (by rw [hb, e'])) (skip (wf1 _) (hn ▸ dOK_of hdn.2) (fun a w hr => ?_) (h2 e'))
          simp [Region.wanted, hg, known hr]
        ·cases hx1
       ·cases hx1
      ·cases hx1
    ·cases hx1
   have hids : ∀ q ∈ (Plan.alt i pa pb).ids, ∃ f', f + 1 = f' + 1 ∧ Branch P X l.toArray n f' listed K' s.toSt q := by
    intro q hq
    rcases List.mem_cons.1 hq with rfl | hq
    ·exact ⟨f, rfl, hone⟩
    ·exact hbr q hq
   refine ⟨fun hm0 _ => ?_, hids⟩
   subst hm0
   rw [Bool.false_or] at hrd
   have hrd := of_decide_eq_true hrd
   refine DrawT.all (by rw [hrd]; simp) (fun q hq => ?_)
   rw [hrd] at hq
   obtain ⟨f', e, hb⟩ := hids q hq
   obtain rfl : f = f' := by omega
   exact hb
theorem WP.drawT {id : Nat} {Q : Exit → St → Prop} {l : List Oper} {n : Nat} {s : St} (hm : P.follows .mixedOrders = true) (hn : n ≤ l.toArray.size)
  (hQ : ∀ c s, ¬ Q (.panic c) s)
  (h : DrawT P X l.toArray n n (Array.replicate l.toArray.size false) (Q .normal) s) : WP P X (.region id l.toArray true) Q s := by
 intro a w hr
 refine wp_region_any hm ?_
 have inv0 : HeadInv .any l.toArray n (Array.replicate l.toArray.size false) :=
  ⟨by simp, fun j oj _ hl => (by rw [getD_replicate_false] at hl; cases hl), fun t _ ht => getD_in (by simpa using ht) (getD_replicate_false _ _)⟩
 have H := h (fun e a w => ∃ s, Q e s ∧ Rep X s a w) a { w with drawn := w.drawn + 1 } (fun c a b w ⟨s, h1, _⟩ => absurd h1 (hQ c s)) (fun s' a' w' h1 h2 => ⟨s', h1, h2⟩) hr.drawn inv0
 have hsz : l.toArray.size = n + (l.toArray.size - n) := by omega
 have H2 := any_of_T (g := l.toArray.size - n) (fun listed a' w' hL => by
  have := wpAny_of_seq (md := .any) (Q' := fun e a w => ∃ s, Q e s ∧ Rep X s a w) (l.toArray.toList.drop n) n listed a' w' (fun j => by simp [List.getElem?_drop]) (by simpa using hL.1) hL.2
  simpa using this) _ _ _ _ H
 rwa [← hsz] at H2
theorem exPlanF_ok (hC : CxOK P C) (hn : X.n = C.n) (hm : X.m = 0) {id : Nat} {l : List Oper} {d : Nat × Plan} {K : TSt → Option β} {s : TSt} {r : β} (hB : regP C.T l.toArray d = true)
  (h : exPlanF C l (exOpsF C l (dropL l d.1) K) d.2 s = some r) :
  WP P X (.region id l.toArray true) (fun e s' => ∃ s1, Imp X s' s1.toSt ∧ e = .normal ∧ K s1 = some r ∧ WFr (dstsOf l) s s1) s.toSt := by
 obtain ⟨n, pl⟩ := d
 simp only [regP, Bool.and_eq_true, decide_eq_true_eq] at hB
 obtain ⟨⟨⟨hsel, hhd⟩, hn'⟩, hp⟩ := hB
 have hno : pl.isNo = false := by
  cases pl with
  | no => cases h
  | _ => rfl
 let Q : Exit → St → Prop := fun e s' => match e with
  | .normal => lk X K r (dstsOf l) s s'
  | _ => False
 have h1 := (exPlanF_all (r := r) (s0 := s) (K' := Q .normal) hC hn hm hsel hhd (tail := exOpsF C l (dropL l n) K) (fun s' listed hx hf hw => by
  refine DrawT.nil hw ?_
  rw [dropL_eq] at hx
  have h1 := exOpsF_ok hC hn hm l (l.drop n) K s' r (fun o ho => List.mem_of_mem_drop ho) hx
  intro Qc a w hK hr
  have h2 := h1 Qc a w (fun s2 a' w' ⟨s3, h3, h4, h5⟩ hr' => hK s2 a' w' ⟨s3, h3, h4, hf.trans h5 (fun _ h => h) (fun _ h => h)⟩ hr') hr
  simpa using h2) pl false n _ s hp (fun _ => h) (.refl _ _)).1 rfl hno
 refine WP.mono (WP.drawT (P := P) (X := X) (id := id) (Q := Q) (l := l) hC.mixed hn' (fun c s h => h) (s := s.toSt) h1) (fun e s' hq => ?_)
 cases e with
 | normal =>
  obtain ⟨s1, h2, h3, h4⟩ := hq
  exact ⟨s1, h2, rfl, h3, h4⟩
 | _ => exact hq.elim
end
end Go.Proofs.YtahlodpolggeiaaGreatDoor.Eng
set_option linter.unusedVariables false
set_option linter.unusedSimpArgs false
namespace Go.Proofs.YtahlodpolggeiaaGreatDoor.Eng
open Go Go.RowKit
def writes : Code → List Nat
 | .region _ ops _ => dstsOf ops.toList
 | .seq a b => writes a ++ writes b
 | .cond _ a b => writes a ++ writes b
 | .block _ b => writes b
 | .loop b => writes b
 | _ => []
def childC : Nat → Code → Option Code
 | 0, .seq a _ => some a
 | 1, .seq _ b => some b
 | 0, .cond _ a _ => some a
 | 1, .cond _ _ b => some b
 | 0, .block _ b => some b
 | 0, .loop b => some b
 | _, _ => none
def atC (root : Code) : List Nat → Option Code
 | [] => some root
 | i :: p => (match atC root p with
  | some c => childC i c
  | none => none)
def TW (P : Program) (X : Ctx) (c : Code) (s : TSt) (Q : Exit → TSt → Prop) : Prop := WP P X c (fun e s' => ∃ s1, Imp X s' s1.toSt ∧ Q e s1) s.toSt
def LoopOK (P : Program) (C : Cx) (ent : Ent) (b : Code) : Prop :=
 ∀ (X : Ctx), X.n = C.n → X.m = 0 → ∀ (β : Type) (K : Exit → TSt → Option β) (s : TSt) (r : β), runL C ent K s = some r → TW P X (.loop b) s (fun e s1 => K e s1 = some r ∧ WFr (writes b) s s1)
def LoopOKM (P : Program) (C : Cx) (ent : EntM) (b : Code) : Prop :=
 ∀ (X : Ctx), X.n = C.n → X.m = 0 → ∀ (β : Type) (K : Exit → TSt → Option β) (s : TSt) (r : β), runM C ent K s = some r → TW P X (.loop b) s (fun e s1 => K e s1 = some r ∧ WFr (writes b) s s1)
def LoopOKE (P : Program) (C : Cx) : LE → Code → Prop
 | .w ent, b => LoopOK P C ent b
 | .m ent, b => LoopOKM P C ent b
def LsOK (P : Program) (C : Cx) (root : Code) (L : List Nat → Option LE) : Prop := ∀ p ent b, L p = some ent → atC root p = some (.loop b) → LoopOKE P C ent b
section
variable {P : Program} {C : Cx} {X : Ctx} {β : Type} {root : Code} {L : List Nat → Option LE}
theorem TW.mono {c : Code} {s : TSt} {Q Q' : Exit → TSt → Prop} (h : TW P X c s Q) (hq : ∀ e s, Q e s → Q' e s) : TW P X c s Q' := WP.mono h fun e s' ⟨s1, h1, h2⟩ => ⟨s1, h1, hq _ _ h2⟩
theorem TW.from {c : Code} {s s' : TSt} {Q : Exit → TSt → Prop} (hi : Imp X s.toSt s'.toSt) (h : TW P X c s' Q) : TW P X c s Q := WP.from hi h
theorem exF_ok (hC : CxOK P C) (hn : X.n = C.n) (hm : X.m = 0) (hL : LsOK P C root L) : ∀ (c : Code) (p : List Nat) (K : Exit → TSt → Option β) (s : TSt) (r : β), atC root p = some c → exF C L c p K s = some r → TW P X c s (fun e s1 => K e s1 = some r ∧ WFr (writes c) s s1) := by
 intro c
 induction c with
 | skip => exact fun p K s r _ h => WP.skip ⟨s, .refl _ _, h, .refl _ _⟩
 | exit id => exact fun p K s r _ h => WP.exit ⟨s, .refl _ _, h, .refl _ _⟩
 | ret => exact fun p K s r _ h => WP.ret ⟨s, .refl _ _, h, .refl _ _⟩
 | region id ops drawn =>
  intro p K s r _ h
  simp only [exF] at h
  cases drawn with
  | false =>
   have h1 := exOpsF_ok hC hn hm ops.toList ops.toList (K .normal) s r (fun o ho => ho) h
   have := WP.region (P := P) (id := id) (l := ops.toList) (Q := fun e s' => ∃ s1, Imp X s' s1.toSt ∧ K e s1 = some r ∧ WFr (writes (.region id ops false)) s s1) h1
   simpa [TW] using this
  | true =>
   simp only at h
   split at h
   ·rename_i d hD
    split at h
    ·rename_i hB
     have hB' : regB ops.toList.toArray d = true := by simpa using hB
     obtain ⟨π, hl, hn', _, _, h1⟩ := exRegF_ok (l := ops.toList) hC hn hm hB' h
     let Q : Exit → St → Prop := fun e s' => match e with
      | .normal => ∃ s1, Imp X s' s1.toSt ∧ K .normal s1 = some r ∧ WFr (writes (.region id ops true)) s s1
      | _ => False
     have h2 := WP.draw2 (P := P) (X := X) (id := id) (Q := Q) (l := ops.toList) hC.mixed hl hn' (fun c s h => h) (s := s.toSt) h1
     have h3 : WP P X (.region id ops true) Q s.toSt := by simpa using h2
     refine WP.mono h3 (fun e s' hq => ?_)
     cases e with
     | normal => exact hq
     | _ => exact hq.elim
    ·cases h
   ·split at h
    ·rename_i d hD
     split at h
     ·rename_i hB
      have hB' : regP C.T ops.toList.toArray d = true := by simpa using hB
      have h1 := exPlanF_ok (id := id) (l := ops.toList) hC hn hm hB' h
      have h3 : TW P X (.region id ops true) s (fun e s1 => K e s1 = some r ∧ WFr (dstsOf ops.toList) s s1) := by
       have := TW.mono (P := P) (X := X) (c := .region id ops.toList.toArray true) (s := s) (Q := fun e s1 => e = .normal ∧ K .normal s1 = some r ∧ WFr (dstsOf ops.toList) s s1) (Q' := fun e s1 => K e s1 = some r ∧ WFr (dstsOf ops.toList) s s1) h1 (fun e s1 hq => by obtain ⟨rfl, h5, h6⟩ := hq; exact ⟨h5, h6⟩)
       simpa using this
      exact h3
     ·cases h
    ·cases h
 | seq a b iha ihb =>
  intro p K s r hat h
  simp only [exF] at h
  have h1 := iha (0 :: p) _ s r (by simp only [atC, hat]; rfl) h
  refine WP.seq (WP.mono h1 (fun e s' hq => ?_))
  obtain ⟨s1, h2, h3, h4⟩ := hq
  have inA : ∀ i, i ∉ writes (.seq a b) → i ∉ writes a := fun i hi h => hi (List.mem_append_left _ h)
  have inB : ∀ i, i ∉ writes (.seq a b) → i ∉ writes b := fun i hi h => hi (List.mem_append_right _ h)
  cases e with
  | normal =>
   refine WP.from h2 (WP.mono (ihb (1 :: p) K s1 r (by simp only [atC, hat]; rfl) h3) (fun e s' hq => ?_))
   obtain ⟨s2, h5, h6, h7⟩ := hq
   exact ⟨s2, h5, h6, h4.trans h7 inA inB⟩
  | _ => exact ⟨s1, h2, h3, h4.mono inA⟩
 | cond c a b iha ihb =>
  intro p K s r hat h
  simp only [exF] at h
  split at h
  ·rename_i t ht
   obtain ⟨h1, h2⟩ := cb_some h
   have inA : ∀ i, i ∉ writes (.cond c a b) → i ∉ writes a := fun i hi h => hi (List.mem_append_left _ h)
   have inB : ∀ i, i ∉ writes (.cond c a b) → i ∉ writes b := fun i hi h => hi (List.mem_append_right _ h)
   refine WP.cond (t := t) (by rw [TSt.ev_ok, boo_av ht]) (fun e => ?_) (fun e => ?_)
   ·exact TW.mono (iha (0 :: p) K s r (by simp only [atC, hat]; rfl) (h1 e)) (fun e s1 hq => ⟨hq.1, hq.2.mono inA⟩)
   ·exact TW.mono (ihb (1 :: p) K s r (by simp only [atC, hat]; rfl) (h2 e)) (fun e s1 hq => ⟨hq.1, hq.2.mono inB⟩)
  ·cases h
 | block id b ih =>
  intro p K s r hat h
  simp only [exF] at h
  have h1 := ih (0 :: p) _ s r (by simp only [atC, hat]; rfl) h
  refine WP.block (WP.mono h1 (fun e s' hq => ?_))
  obtain ⟨s1, h2, h3, h4⟩ := hq
  cases e with
  | exit i =>
   simp only at h3
   simp only [block_]
   split at h3
   ·rename_i hi
    rw [if_pos (of_decide_eq_true hi)]
    exact ⟨s1, h2, h3, h4⟩
   ·rename_i hi
    rw [if_neg (of_decide_eq_false hi)]
    exact ⟨s1, h2, h3, h4⟩
  | _ => exact ⟨s1, h2, h3, h4⟩
 | loop b _ =>
  intro p K s r hat h
  simp only [exF] at h
  split at h
  ·rename_i ent hent
   exact hL p (.w ent) b hent hat X hn hm β K s r h
  ·rename_i ent hent
   exact hL p (.m ent) b hent hat X hn hm β K s r h
  ·cases h
 | _ => intro p K s r _ h; simp [exF] at h
theorem WP.ghost {α : Type} {b : Code} {Q : Exit → St → Prop} (I : α → St) (Inv : α → Prop) (μ : α → Nat) (g0 : α) (h0 : Inv g0) (round : ∀ g, Inv g → WP P X b (then_ (fun s' => ∃ g', Imp X s' (I g') ∧ Inv g' ∧ μ g' < μ g) Q) (I g)) : WP P X (.loop b) Q (I g0) := by
 rintro a w hr
 refine wp_loop_ghost (fun n a w => ∃ g, μ g = n ∧ Inv g ∧ Rep X (I g) a w) (μ g0) ⟨g0, rfl, h0, hr⟩ ?_
 rintro n a w ⟨g, rfl, hI, hr⟩
 refine Code.wp_mono' (round g hI a w hr) ?_
 rintro e a w ⟨s', h1, h2⟩
 cases e with
 | normal =>
  obtain ⟨g', hi, hI', hlt⟩ := h1
  exact ⟨μ g', hlt, g', rfl, hI', hi a w h2⟩
 | _ => exact ⟨s', h1, h2⟩
theorem memN_ok : ∀ (l : List Nat) (i : Nat), memN l i = true → i ∈ l
 | x :: r, i, h => by
  unfold memN at h
  by_cases hx : x = i
  ·subst hx; exact List.mem_cons_self ..
  ·rw [if_neg hx] at h; exact List.mem_cons_of_mem _ (memN_ok r i h)
def subN : List Nat → List Nat → Bool
 | [], _ => true
 | x :: r, l => memN l x && subN r l
theorem subN_ok : ∀ (l m : List Nat), subN l m = true → ∀ i ∈ l, i ∈ m
 | x :: r, m, h, i, hi => by
  simp only [subN, Bool.and_eq_true] at h
  rcases List.mem_cons.1 hi with rfl | hi
  ·exact memN_ok _ _ h.1
  ·exact subN_ok r m h.2 i hi
def slotsOf (l : List (Nat × SK)) : List Nat := l.map (·.1)
def apartN : List Nat → List Nat → Bool
 | [], _ => true
 | x :: r, l => !memN l x && apartN r l
theorem memN_not : ∀ (l : List Nat) (i : Nat), memN l i = false → i ∉ l
 | [], _, _ => by simp
 | x :: r, i, h => by
  unfold memN at h
  by_cases hx : x = i
  ·rw [if_pos hx] at h; cases h
  ·rw [if_neg hx] at h
   simp only [List.mem_cons, not_or]
   exact ⟨fun e => hx e.symm, memN_not r i h⟩
theorem apartN_ok : ∀ (l m : List Nat), apartN l m = true → ∀ i ∈ l, i ∉ m
 | x :: r, m, h, i, hi => by
  simp only [apartN, Bool.and_eq_true, Bool.not_eq_true'] at h
  rcases List.mem_cons.1 hi with rfl | hi
  ·exact memN_not _ _ h.1
  ·exact apartN_ok r m h.2 i hi
def preSlots : List PA → List Nat
 | [] => []
 | .nil d _ _ :: r => d :: preSlots r
 | .nilT d _ _ _ :: r => d :: preSlots r
 | .frz _ :: r => preSlots r
 | .nilB _ _ _ _ :: r => preSlots r
theorem preSlots_ok {W : List Nat} : ∀ (l : List PA), (∀ i ∈ preSlots l, i ∈ W) → ∀ p ∈ l, ∀ d, p.slot = some d → d ∈ W
 | .nil d e t :: r, h, p, hp, d', hpe => by
  rcases List.mem_cons.1 hp with rfl | hp
  ·cases hpe; exact h d (List.mem_cons_self ..)
  ·exact preSlots_ok r (fun i hi => h i (List.mem_cons_of_mem _ hi)) p hp d' hpe
 | .nilT d e ei t :: r, h, p, hp, d', hpe => by
  rcases List.mem_cons.1 hp with rfl | hp
  ·cases hpe; exact h d (List.mem_cons_self ..)
  ·exact preSlots_ok r (fun i hi => h i (List.mem_cons_of_mem _ hi)) p hp d' hpe
 | .frz d :: r, h, p, hp, d', hpe => by
  rcases List.mem_cons.1 hp with rfl | hp
  ·cases hpe
  ·exact preSlots_ok r h p hp d' hpe
 | .nilB b j e t :: r, h, p, hp, d', hpe => by
  rcases List.mem_cons.1 hp with rfl | hp
  ·cases hpe
  ·exact preSlots_ok r h p hp d' hpe
def exitSlots : List (Exit × Shape) → List Nat
 | [] => []
 | p :: r => slotsOf p.2.slots ++ exitSlots r
def pureSl : List (Nat × SK) → List Nat
 | [] => []
 | (i, .val _) :: r => i :: pureSl r
 | (i, .rp _) :: r => i :: pureSl r
 | (i, .fn _) :: r => i :: pureSl r
 | (_, .own _ _) :: r => pureSl r
 | (_, .que _ _) :: r => pureSl r
 | (_, .ptr _ _) :: r => pureSl r
 | (_, .nm _ _) :: r => pureSl r
 | (_, .agg _) :: r => pureSl r
 | (_, .nil) :: r => pureSl r
 | (_, .inn _) :: r => pureSl r
 | (_, .clo _ _) :: r => pureSl r
def ownSl : List (Nat × SK) → List Nat
 | [] => []
 | (_, .val _) :: r => ownSl r
 | (_, .rp _) :: r => ownSl r
 | (_, .fn _) :: r => ownSl r
 | (i, .own _ _) :: r => i :: ownSl r
 | (i, .que _ _) :: r => i :: ownSl r
 | (i, .ptr _ _) :: r => i :: ownSl r
 | (i, .nm _ _) :: r => i :: ownSl r
 | (i, .agg _) :: r => i :: ownSl r
 | (i, .nil) :: r => i :: ownSl r
 | (i, .inn _) :: r => i :: ownSl r
 | (i, .clo _ _) :: r => i :: ownSl r
def pureEx : List (Exit × Shape) → List Nat
 | [] => []
 | p :: r => pureSl p.2.slots ++ pureEx r
def ownEx : List (Exit × Shape) → List Nat
 | [] => []
 | p :: r => ownSl p.2.slots ++ ownEx r
theorem slot_or : ∀ (l : List (Nat × SK)) (i : Nat), i ∈ slotsOf l → i ∈ pureSl l ∨ i ∈ ownSl l
 | (j, sk) :: r, i, hi => by
  rcases List.mem_cons.1 hi with h | h
  ·have h' : i = j := h
   subst h'
   cases sk <;> simp [pureSl, ownSl]
  ·rcases slot_or r i h with h | h <;> cases sk <;> simp [pureSl, ownSl, h]
theorem ownSl_chk {env : List (Nat × SV)} {n : Nat} : ∀ (l : List (Nat × SK)) (i : Nat), chkSlots env n l = true → i ∈ ownSl l → (∃ k sz, tget env i = .own k sz) ∨ (∃ k sz, tget env i = .ptr k 0 sz 0) ∨ (∃ k q, tget env i = .nm k q) ∨ (∃ cs, tget env i = .agg cs) ∨ (∃ f c cs, tget env i = .fn f (c :: cs)) ∨ ∃ c, tget env i = .cst c
 | (j, sk) :: r, i, hc, hi => by
  cases sk with
  | val t => exact ownSl_chk r i hc hi
  | rp t => exact ownSl_chk r i hc hi
  | fn g =>
   simp only [chkSlots] at hc
   split at hc
   ·simp only [Bool.and_eq_true] at hc; exact ownSl_chk r i hc.2 hi
   ·cases hc
  | own k sz =>
   simp only [chkSlots] at hc
   split at hc
   ·rename_i k' sz' hg
    simp only [Bool.and_eq_true] at hc
    rcases List.mem_cons.1 hi with h | h
    ·subst h; exact .inl ⟨_, _, hg⟩
    ·exact ownSl_chk r i hc.2 h
   ·cases hc
  | que k sz =>
   simp only [chkSlots] at hc
   split at hc
   ·rename_i k' sz' hg
    simp only [Bool.and_eq_true] at hc
    rcases List.mem_cons.1 hi with h | h
    ·subst h; exact .inl ⟨_, _, hg⟩
    ·exact ownSl_chk r i hc.2 h
   ·cases hc
  | ptr k sz =>
   simp only [chkSlots] at hc
   split at hc
   ·rename_i k' sz' hg
    simp only [Bool.and_eq_true] at hc
    rcases List.mem_cons.1 hi with h | h
    ·subst h; exact .inr (.inl ⟨_, _, hg⟩)
    ·exact ownSl_chk r i hc.2 h
   ·cases hc
  | nm k sz =>
   simp only [chkSlots] at hc
   split at hc
   ·rename_i k' sz' hg
    simp only [Bool.and_eq_true] at hc
    rcases List.mem_cons.1 hi with h | h
    ·subst h; exact .inr (.inr (.inl ⟨_, _, hg⟩))
    ·exact ownSl_chk r i hc.2 h
   ·cases hc
  | inn k =>
   simp only [chkSlots] at hc
   split at hc
   ·rename_i k' q hg
    simp only [Bool.and_eq_true] at hc
    rcases List.mem_cons.1 hi with h | h
    ·subst h; exact .inr (.inr (.inl ⟨_, _, hg⟩))
    ·exact ownSl_chk r i hc.2 h
   ·cases hc
  | agg cs =>
   simp only [chkSlots] at hc
   split at hc
   ·rename_i xs hg
    simp only [Bool.and_eq_true] at hc
    rcases List.mem_cons.1 hi with h | h
    ·subst h; exact .inr (.inr (.inr (.inl ⟨_, hg⟩)))
    ·exact ownSl_chk r i hc.2 h
   ·cases hc
  | clo f cs =>
   simp only [chkSlots] at hc
   split at hc
   ·rename_i f' c xs hg
    simp only [Bool.and_eq_true] at hc
    rcases List.mem_cons.1 hi with h | h
    ·subst h; exact .inr (.inr (.inr (.inr (.inl ⟨_, _, _, hg⟩))))
    ·exact ownSl_chk r i hc.2 h
   ·cases hc
  | nil =>
   simp only [chkSlots] at hc
   split at hc
   ·rename_i hg
    rcases List.mem_cons.1 hi with h | h
    ·subst h; exact .inr (.inr (.inr (.inr (.inr ⟨_, hg⟩))))
    ·exact ownSl_chk r i hc h
   ·cases hc
def Ent.fits (ent : Ent) (b : Code) : Bool := subN (pureSl ent.car.slots) (writes b) && subN (pureEx ent.exits) (writes b) && subN (ownEx ent.exits) (writes b ++ ownSl ent.car.slots) && subN (preSlots ent.pre) (writes b) &&
 apartN (slotsOf ent.inv) (writes b) && apartN (slotsOf ent.inv) (slotsOf ent.car.slots) && apartN (slotsOf ent.inv) (exitSlots ent.exits)
end
end Go.Proofs.YtahlodpolggeiaaGreatDoor.Eng
set_option linter.unusedVariables false
set_option linter.unusedSimpArgs false
namespace Go.Proofs.YtahlodpolggeiaaGreatDoor.Eng
open Go Go.RowKit
section
variable {P : Program} {C : Cx} {X : Ctx} {β : Type} {root : Code} {L : List Nat → Option LE}
theorem decS_some {sh : Shape} {s : TSt} {k : denL sh.tys → Option β} {r : β} (h : decS sh s k = some r) : ∃ x, (chkSlots s.env sh.objs.length sh.slots && chkObjs sh.objs.length s.heap sh.objs) = true ∧ asTL [] sh.tys (colSlots s.env sh.slots ++ colObjs s.heap sh.objs) = some x ∧ k x = some r := by
 unfold decS at h
 split at h
 ·rename_i hc
  split at h
  ·rename_i x hx
   exact ⟨x, hc, hx, h⟩
  ·cases h
 ·cases h
theorem encI_ok {env : List (Nat × SV)} : ∀ (inv : List (Nat × SK)) (vs : List SV), chkInv env inv = true → Rel3 (slotTys inv) (colSlots env inv) vs →
  (encSlots inv vs).1.map (·.1) = slotsOf inv ∧ ∀ i, i ∈ slotsOf inv → (∀ H H' n, LeS H H' n (tget env i) (tget (encSlots inv vs).1 i)) ∧ tget env i ≠ .any ∧ (∀ t (x : t.den), tget env i = .val t x → tget (encSlots inv vs).1 i = .val t x) ∧ (∀ t (x : t.den), tget env i = .rp t x → tget (encSlots inv vs).1 i = .rp t x) ∧
   (∀ g, tget env i = .fn g [] → tget (encSlots inv vs).1 i = .fn g []) ∧ ((∃ t x, tget (encSlots inv vs).1 i = .val t x) ∨ (∃ t x, tget (encSlots inv vs).1 i = .rp t x) ∨ ∃ g, tget (encSlots inv vs).1 i = .fn g []) := by
 intro inv
 induction inv with
 | nil => exact fun vs _ _ => ⟨rfl, fun i hi => by cases hi⟩
 | cons p r ih =>
  obtain ⟨j, sk⟩ := p
  have fin : ∀ {vs vs' : List SV} {v : SV}, chkInv env r = true → Rel3 (slotTys r) (colSlots env r) vs' → (encSlots ((j, sk) :: r) vs).1 = (j, v) :: (encSlots r vs').1 →
    (∀ H H' n, LeS H H' n (tget env j) v) → tget env j ≠ .any → (∀ t (x : t.den), tget env j = .val t x → v = .val t x) → (∀ t (x : t.den), tget env j = .rp t x → v = .rp t x) → (∀ g, tget env j = .fn g [] → v = .fn g []) → ((∃ t x, v = .val t x) ∨ (∃ t x, v = .rp t x) ∨ ∃ g, v = .fn g []) →
    (encSlots ((j, sk) :: r) vs).1.map (·.1) = slotsOf ((j, sk) :: r) ∧ ∀ i, i ∈ slotsOf ((j, sk) :: r) → (∀ H H' n, LeS H H' n (tget env i) (tget (encSlots ((j, sk) :: r) vs).1 i)) ∧ tget env i ≠ .any ∧ (∀ t (x : t.den), tget env i = .val t x → tget (encSlots ((j, sk) :: r) vs).1 i = .val t x) ∧ (∀ t (x : t.den), tget env i = .rp t x → tget (encSlots ((j, sk) :: r) vs).1 i = .rp t x) ∧
     (∀ g, tget env i = .fn g [] → tget (encSlots ((j, sk) :: r) vs).1 i = .fn g []) ∧ ((∃ t x, tget (encSlots ((j, sk) :: r) vs).1 i = .val t x) ∨ (∃ t x, tget (encSlots ((j, sk) :: r) vs).1 i = .rp t x) ∨ ∃ g, tget (encSlots ((j, sk) :: r) vs).1 i = .fn g []) := by
   intro vs vs' v hc hr he h1 h2 h3 h4 h5 h6
   obtain ⟨h7, h8⟩ := ih vs' hc hr
   rw [he]
   refine ⟨by simp only [List.map_cons, slotsOf]; rw [h7]; rfl, fun i hi => ?_⟩
   simp only [tget]
   by_cases hij : i = j
   ·subst hij
    simp only [if_true]
    exact ⟨h1, h2, h3, h4, h5, h6⟩
   ·simp only [if_neg hij]
    simp only [slotsOf, List.map_cons, List.mem_cons] at hi
    exact h8 i (hi.resolve_left hij)
  intro vs hc hr
  cases sk with
  | val t =>
   simp only [slotTys, colSlots] at hr
   cases hr with
   | @cons _ _ y _ _ _ hu hr =>
    simp only [chkInv] at hc
    have hc2 : chkInv env r = true ∧ (∀ t' (x : t'.den), tget env j ≠ .rp t' x) ∧ ∀ g, tget env j ≠ .fn g [] := by
     cases hg : tget env j <;> rw [hg] at hc <;> first | (simp only at hc; exact ⟨hc, (fun t' x e => by cases e), fun g e => by cases e⟩) | (simp at hc)
    refine fin hc2.1 hr rfl (fun H H' n => asT_ok (Lends.none (trimAt n) H) hu) (fun e => by rw [e, asT_any] at hu; cases hu) (fun t' x e => ?_) (fun t' x e => absurd e (hc2.2.1 t' x)) (fun g e => absurd e (hc2.2.2 g)) (.inl ⟨t, y, rfl⟩)
    ·rw [e] at hu
     obtain ⟨e1, h9⟩ := castD_ok (show castD t t' x = some y from hu)
     subst e1
     subst h9
     rfl
  | rp t =>
   simp only [slotTys, colSlots] at hr
   cases hr with
   | @cons _ _ y _ _ _ hu hr =>
    have key : tget env j = .rp t y := by
     revert hu
     cases tget env j with
     | rp u z =>
      intro hu
      obtain ⟨e, h9⟩ := castD_ok (show castD t u z = some y from hu)
      subst e
      subst h9
      rfl
     | _ => intro hu; rw [show unRp _ = SV.any from rfl, asT_any] at hu; cases hu
    refine fin hc hr rfl (fun H H' n => by rw [key]; exact .refl _) (by rw [key]; simp) (fun t' x e => by rw [key] at e; cases e) (fun t' x e => by rw [key] at e; exact e) (fun g e => by rw [key] at e; cases e) (.inr (.inl ⟨t, y, rfl⟩))
  | fn g =>
   simp only [slotTys, colSlots] at hr
   simp only [chkInv] at hc
   split at hc
   ·rename_i g' hg
    simp only [Bool.and_eq_true, decide_eq_true_eq] at hc
    obtain ⟨rfl, hc⟩ := hc
    refine fin hc hr rfl (fun H H' n => by rw [hg]; exact .refl _) (by rw [hg]; simp) (fun t' x e => by rw [hg] at e; cases e) (fun t' x e => by rw [hg] at e; cases e) (fun g e => by rw [hg] at e; exact e) (.inr (.inr ⟨_, rfl⟩))
   ·cases hc
  | own k sz => simp [chkInv] at hc
  | que k sz => simp [chkInv] at hc
  | ptr k sz => simp [chkInv] at hc
  | nm k sz => simp [chkInv] at hc
  | agg cs => simp [chkInv] at hc
  | nil => simp [chkInv] at hc
  | inn k => simp [chkInv] at hc
  | clo f cs => simp [chkInv] at hc
theorem findX_some (hm : X.m = 0) : ∀ (l : List (Exit × Shape)) (e : Exit) (s : TSt) (k : sumD l → Option β) (r : β), findX l e s k = some r → ∃ (sh : Shape) (s' : TSt) (x : denL sh.tys) (y : sumD l), k y = some r ∧ Imp X s.toSt s'.toSt ∧ PureSame s s' ∧
  (chkSlots s'.env sh.objs.length sh.slots && chkObjs sh.objs.length s'.heap sh.objs) = true ∧ asTL [] sh.tys (colSlots s'.env sh.slots ++ colObjs s'.heap sh.objs) = some x ∧ (∀ i ∈ slotsOf sh.slots, i ∈ exitSlots l) ∧ (∀ i ∈ pureSl sh.slots, i ∈ pureEx l) ∧ (∀ i ∈ ownSl sh.slots, i ∈ ownEx l) ∧
  ∀ {γ : Type} (k' : Exit → (sh : Shape) → denL sh.tys → Option γ), bindS l y k' = k' e sh x := by
 intro l
 induction l with
 | nil => intro e s k r h; simp [findX] at h
 | cons p l ih =>
  intro e s k r h
  cases l with
  | nil =>
   simp only [findX] at h
   split at h
   ·rename_i he
    obtain rfl := exitB_ok he
    obtain ⟨s', h1, h2, h3⟩ := renF_ok (X := X) hm _ _ _ _ h
    obtain ⟨x, h4, h5, h6⟩ := decS_some h1
    exact ⟨p.2, s', x, x, h6, h2, h3, h4, h5, fun i hi => by simp only [exitSlots, List.append_nil]; exact hi, fun i hi => by simp only [pureEx, List.append_nil]; exact hi, fun i hi => by simp only [ownEx, List.append_nil]; exact hi, fun k' => rfl⟩
   ·cases h
  | cons q l =>
   simp only [findX] at h
   split at h
   ·rename_i he
    obtain rfl := exitB_ok he
    obtain ⟨s', h1, h2, h3⟩ := renF_ok (X := X) hm _ _ _ _ h
    obtain ⟨x, h4, h5, h6⟩ := decS_some h1
    exact ⟨p.2, s', x, .inl x, h6, h2, h3, h4, h5, fun i hi => List.mem_append_left _ hi, fun i hi => List.mem_append_left _ hi, fun i hi => List.mem_append_left _ hi, fun k' => rfl⟩
   ·obtain ⟨sh, s', x, y, h1, h2, h3, h4, h5, h6, h8, h9, h7⟩ := ih e s _ r h
    exact ⟨sh, s', x, .inr y, h1, h2, h3, h4, h5, fun i hi => List.mem_append_right _ (h6 i hi), fun i hi => List.mem_append_right _ (h8 i hi), fun i hi => List.mem_append_right _ (h9 i hi), fun k' => h7 k'⟩
theorem encS_env (sh : Shape) (x : denL sh.tys) (fr : List (Nat × SV)) : (encS sh x fr).env = (encSlots sh.slots (svL sh.tys x)).1 ++ fr := rfl
theorem encSlots_keys : ∀ (slots : List (Nat × SK)) (l : List SV), ∀ i ∈ (encSlots slots l).1.map (·.1), i ∈ slotsOf slots
 | [], l, i, hi => by simp [encSlots] at hi
 | (j, sk) :: r, l, i, hi => by
  have go : ∀ {v : SV} {l' : List SV}, i ∈ ((j, v) :: (encSlots r l').1).map (·.1) → i ∈ slotsOf ((j, sk) :: r) := fun {v l'} h => by
   rcases List.mem_cons.1 h with h | h
   ·rw [h]; exact List.mem_cons_self ..
   ·exact List.mem_cons_of_mem _ (encSlots_keys r l' i h)
  cases sk with
  | val t => cases l with
   | nil => simp [encSlots] at hi
   | cons y l => exact go hi
  | rp t => cases l with
   | nil => simp [encSlots] at hi
   | cons y l => exact go hi
  | own k sz => exact go hi
  | que k sz => exact go hi
  | ptr k sz => exact go hi
  | nm k sz => exact go hi
  | fn g => exact go hi
  | agg cs => exact go hi
  | nil => exact go hi
  | inn k => cases l with
   | nil => simp [encSlots] at hi
   | cons y l => exact go hi
  | clo f cs => exact go hi
theorem knownB_ok : ∀ (env : List (Nat × SV)) (inv : List (Nat × SK)), knownB env inv = true → ∀ i ∈ slotsOf inv, tget env i ≠ .any
 | env, (j, sk) :: r, h, i, hi => by
  unfold knownB at h
  split at h
  ·cases h
  ·rename_i hne
   rcases List.mem_cons.1 hi with h1 | h1
   ·have h2 : i = j := h1
    subst h2
    exact hne
   ·exact knownB_ok env r h i h1
theorem LoopOK.of (hC : CxOK P C) {p : List Nat} {b : Code} (hL : LsOK P C root L) (hat : atC root p = some (.loop b)) {ent : Ent} (hfit : ent.fits b = true)
  (hstep : ∀ iv x, exF C L b (0 :: p) ent.kd (ent.head iv x) = ent.step iv x) : LoopOK P C ent b := by
 intro X hn hm β K s r h
 simp only [Ent.fits, Bool.and_eq_true] at hfit
 obtain ⟨⟨⟨⟨⟨⟨f1, f2⟩, f7⟩, f3⟩, f4⟩, f5⟩, f6⟩ := hfit
 have f1 := subN_ok _ _ f1
 have f2 := subN_ok _ _ f2
 have f7 := subN_ok _ _ f7
 have f3 := subN_ok _ _ f3
 have f4 := apartN_ok _ _ f4
 have f5 := apartN_ok _ _ f5
 have f6 := apartN_ok _ _ f6
 unfold runL at h
 split at h
 ·rename_i s1 hs1
  obtain ⟨s2, h1, h2, h3⟩ := renF_ok (X := X) hm _ _ _ _ h
  split at h1
  ·rename_i iv hci hiv
   obtain ⟨x, h4, h5, h6⟩ := decS_some h1
   obtain ⟨y, h7, h8⟩ := ob_some h6
   have hI := encI_ok (env := s2.env) ent.inv _ hci (rel3_of _ _ _ hiv)
   have hkeys : (encI ent.inv iv).map (·.1) = slotsOf ent.inv := hI.1
   have hfr : ∀ s' : TSt, (∀ i ∈ slotsOf ent.inv, tget s'.env i = tget (encI ent.inv iv) i) → FrOK (encI ent.inv iv) s' := by
    intro s' hs' H H' n i
    by_cases hi : i ∈ slotsOf ent.inv
    ·rw [hs' i hi]
     rcases (hI.2 i hi).2.2.2.2.2 with ⟨t, z, e⟩ | ⟨t, z, e⟩ | ⟨g, e⟩
     ·have e' : tget (encI ent.inv iv) i = .val t z := e
      rw [e']; unfold LeS; simp only [SV.toAV]; rw [av_sub]; exact .refl _
     ·have e' : tget (encI ent.inv iv) i = .rp t z := e
      rw [e']; exact .refl _
     ·have e' : tget (encI ent.inv iv) i = .fn g [] := e
      rw [e']; exact .refl _
    ·rw [tget_not (encI ent.inv iv) i (by rw [hkeys]; exact hi)]; exact .any _
   have hfr2 : FrOK (encI ent.inv iv) s2 := fun H H' n i => by
    by_cases hi : i ∈ slotsOf ent.inv
    ·exact (hI.2 i hi).1 H H' n
    ·rw [tget_not (encI ent.inv iv) i (by rw [hkeys]; exact hi)]; exact .any _
   have hhead : Imp X s.toSt (ent.head iv x).toSt := (preF_ok C.TY _ _ _ hs1).trans (h2.trans (dec_imp hm h4 h5 hfr2))
   have stay : ∀ (x' : denL ent.car.tys) (s' : TSt), WFr (writes b) (ent.head iv x') s' → knownB s'.env ent.inv = true → ∀ i ∈ slotsOf ent.inv, tget s'.env i = tget (encI ent.inv iv) i := by
    intro x' s' hw hk i hi
    have hne := knownB_ok _ _ hk i hi
    have hnw := f4 i hi
    have hh : tget (ent.head iv x').env i = tget (encI ent.inv iv) i := by
     unfold Ent.head
     rw [encS_env, tget_app, if_neg]
     intro hmem
     exact f5 i hi (encSlots_keys _ _ i hmem)
    have h9 := hw i hnw
    rw [hh] at h9
    rcases (hI.2 i hi).2.2.2.2.2 with ⟨t, z, e⟩ | ⟨t, z, e⟩ | ⟨g, e⟩
    ·have e' : tget (encI ent.inv iv) i = .val t z := e
     rw [e']; exact (h9.2.1 t z e').resolve_left hne
    ·have e' : tget (encI ent.inv iv) i = .rp t z := e
     rw [e']; exact (h9.2.2.1 t z e').resolve_left hne
    ·have e' : tget (encI ent.inv iv) i = .fn g [] := e
     rw [e']; exact (h9.2.2.2 g e').resolve_left hne
   have stay2 : ∀ (s' s'' : TSt), PureSame s' s'' → (∀ i ∈ slotsOf ent.inv, tget s'.env i = tget (encI ent.inv iv) i) → ∀ i ∈ slotsOf ent.inv, tget s''.env i = tget (encI ent.inv iv) i := by
    intro s' s'' hps hs' i hi
    have h9 := hps i
    rw [hs' i hi] at h9
    rcases (hI.2 i hi).2.2.2.2.2 with ⟨t, z, e⟩ | ⟨t, z, e⟩ | ⟨g, e⟩
    ·have e' : tget (encI ent.inv iv) i = .val t z := e
     rw [e']; exact h9.2.1 t z e'
    ·have e' : tget (encI ent.inv iv) i = .rp t z := e
     rw [e']; exact h9.2.2.1 t z e'
    ·have e' : tget (encI ent.inv iv) i = .fn g [] := e
     rw [e']; exact h9.2.2.2 g e'
   have hout : ∀ (sh : Shape) (z : denL sh.tys), (∀ i ∈ pureSl sh.slots, i ∈ writes b) → (∀ i ∈ ownSl sh.slots, i ∈ writes b ++ ownSl ent.car.slots) → WFr (writes b) s (encS sh z (encI ent.inv iv)) := by
    intro sh z hsh hsho i hi
    have h9 := preF_fr (writes b) C.TY _ _ _ hs1 (preSlots_ok _ f3) i hi
    have h10 := h3 i
    by_cases hk : i ∈ slotsOf sh.slots
    ·
     have ho : i ∈ ownSl ent.car.slots := by
      rcases slot_or _ _ hk with h | h
      ·exact absurd (hsh i h) hi
      ·exact (List.mem_append.1 (hsho i h)).resolve_left hi
     have hchk := ownSl_chk _ i (by rw [Bool.and_eq_true] at h4; exact h4.1) ho
     have no : ∀ v : SV, tget s2.env i = v → (∀ k sz, v ≠ .own k sz) → (∀ k sz, v ≠ .ptr k 0 sz 0) → (∀ k q, v ≠ .nm k q) → (∀ cs, v ≠ .agg cs) → (∀ f c cs, v ≠ .fn f (c :: cs)) → (∀ c, v ≠ .cst c) → False := by
      intro v e h1 h2 h3 h4 h5 h6
      rcases hchk with ⟨k, sz, h⟩ | ⟨k, sz, h⟩ | ⟨k, sz, h⟩ | ⟨cs, h⟩ | ⟨f, c, cs, h⟩ | ⟨c, h⟩
      ·exact h1 k sz (e.symm.trans h)
      ·exact h2 k sz (e.symm.trans h)
      ·exact h3 k sz (e.symm.trans h)
      ·exact h4 cs (e.symm.trans h)
      ·exact h5 f c cs (e.symm.trans h)
      ·exact h6 c (e.symm.trans h)
     refine ⟨fun e => ?_, fun t z e => ?_, fun t z e => ?_, fun g e => ?_⟩
     ·exact (no _ (h10.1 (h9.1 e)) (fun _ _ h => by cases h) (fun _ _ h => by cases h) (fun _ _ h => by cases h) (fun _ h => by cases h) (fun _ _ _ h => by cases h) (fun _ h => by cases h)).elim
     ·rcases h9.2.1 t z e with e | e
      ·exact (no _ (h10.1 e) (fun _ _ h => by cases h) (fun _ _ h => by cases h) (fun _ _ h => by cases h) (fun _ h => by cases h) (fun _ _ _ h => by cases h) (fun _ h => by cases h)).elim
      ·exact (no _ (h10.2.1 t z e) (fun _ _ h => by cases h) (fun _ _ h => by cases h) (fun _ _ h => by cases h) (fun _ h => by cases h) (fun _ _ _ h => by cases h) (fun _ h => by cases h)).elim
     ·rcases h9.2.2.1 t z e with e | e
      ·exact (no _ (h10.1 e) (fun _ _ h => by cases h) (fun _ _ h => by cases h) (fun _ _ h => by cases h) (fun _ h => by cases h) (fun _ _ _ h => by cases h) (fun _ h => by cases h)).elim
      ·exact (no _ (h10.2.2.1 t z e) (fun _ _ h => by cases h) (fun _ _ h => by cases h) (fun _ _ h => by cases h) (fun _ h => by cases h) (fun _ _ _ h => by cases h) (fun _ h => by cases h)).elim
     ·rcases h9.2.2.2 g e with e | e
      ·exact (no _ (h10.1 e) (fun _ _ h => by cases h) (fun _ _ h => by cases h) (fun _ _ h => by cases h) (fun _ h => by cases h) (fun _ _ _ h => by cases h) (fun _ h => by cases h)).elim
      ·exact (no _ (h10.2.2.2 g e) (fun _ _ h => by cases h) (fun _ _ h => by cases h) (fun _ _ h => by cases h) (fun _ h => by cases h) (fun _ _ _ h => by cases h) (fun _ h => by cases h)).elim
    ·rw [encS_env, tget_app, if_neg (fun hmem => hk (encSlots_keys _ _ i hmem))]
     by_cases hii : i ∈ slotsOf ent.inv
     ·have hq := hI.2 i hii
      refine ⟨fun e => absurd (h10.1 (h9.1 e)) hq.2.1, fun t z e => ?_, fun t z e => ?_, fun g e => ?_⟩
      ·rcases h9.2.1 t z e with e | e
       ·exact absurd (h10.1 e) hq.2.1
       ·exact .inr (hq.2.2.1 t z (h10.2.1 t z e))
      ·rcases h9.2.2.1 t z e with e | e
       ·exact absurd (h10.1 e) hq.2.1
       ·exact .inr (hq.2.2.2.1 t z (h10.2.2.1 t z e))
      ·rcases h9.2.2.2 g e with e | e
       ·exact absurd (h10.1 e) hq.2.1
       ·exact .inr (hq.2.2.2.2.1 g (h10.2.2.2 g e))
     ·have e := tget_not (encI ent.inv iv) i (by rw [hkeys]; exact hii)
      exact ⟨fun _ => e, fun _ _ _ => .inl e, fun _ _ _ => .inl e, fun _ _ => .inl e⟩
   obtain ⟨n, hN⟩ := loopX_some h7
   refine TW.from hhead ?_
   unfold TW
   refine WP.ghost (α := denL ent.car.tys × Nat) (fun g => (ent.head iv g.1).toSt) (fun g => loopN (ent.step iv) g.2 g.1 = some y) (fun g => g.2) (x, n) hN ?_
   rintro ⟨x', n'⟩ hN'
   cases n' with
   | zero => cases hN'
   | succ n' =>
    have hat' : atC root (0 :: p) = some b := by simp only [atC, hat]; rfl
    cases hst : ent.step iv x' with
    | none => simp only [loopN, hst] at hN'; cases hN'
    | some q =>
     have hex := exF_ok hC hn hm hL b (0 :: p) ent.kd (ent.head iv x') q hat' (by rw [hstep]; exact hst)
     refine WP.mono hex (fun e s' hq => ?_)
     obtain ⟨s3, h9, h10, h11⟩ := hq
     unfold Ent.kd at h10
     split at h10
     ·rename_i hk
      have hs3 := stay x' s3 h11 hk
      split at h10
      ·rename_i he
       obtain rfl := exitB_ok he
       obtain ⟨s4, h12, h13, h14⟩ := renF_ok (X := X) hm _ _ _ _ h10
       obtain ⟨x2, h15, h16, h17⟩ := decS_some h12
       cases h17
       simp only [loopN, hst] at hN'
       refine ⟨(x2, n'), h9.trans (h13.trans (dec_imp hm h15 h16 (hfr s4 (stay2 _ _ h14 hs3)))), hN', Nat.lt_succ_self _⟩
      ·rename_i he
       obtain ⟨sh, s4, z, y2, h12, h13, h14, h15, h16, h17, h19, h20, h18⟩ := findX_some hm _ _ _ _ _ h10
       cases h12
       simp only [loopN, hst] at hN'
       cases hN'
       have hres : ∃ s5, Imp X s' s5.toSt ∧ K e s5 = some r ∧ WFr (writes b) s s5 := by
        refine ⟨encS sh z (encI ent.inv iv), h9.trans (h13.trans (dec_imp hm h15 h16 (hfr s4 (stay2 _ _ h14 hs3)))), ?_, hout sh z (fun i hi => f2 i (h19 i hi)) (fun i hi => f7 i (h20 i hi))⟩
        rw [← h8, h18]
       cases e with
       | normal => exact absurd he (by decide)
       | _ => exact hres
     ·cases h10
  ·cases h1
 ·cases h
end
end Go.Proofs.YtahlodpolggeiaaGreatDoor.Eng
set_option linter.unusedVariables false
set_option linter.unusedSimpArgs false
namespace Go.Proofs.YtahlodpolggeiaaGreatDoor.Eng
open Go Go.RowKit
section
variable {P : Program} {C : Cx} {X : Ctx} {β : Type} {root : Code} {L : List Nat → Option LE}
end
end Go.Proofs.YtahlodpolggeiaaGreatDoor.Eng
set_option linter.unusedVariables false
set_option linter.unusedSimpArgs false
namespace Go.Proofs.YtahlodpolggeiaaGreatDoor.Eng
open Go Go.RowKit
section
variable {P : Program} {C : Cx} {X : Ctx} {β : Type} {root : Code} {L : List Nat → Option LE}
theorem WPO.mono {ops : Array Oper} {rest : List Oper} {K K' : St → Prop} {s : St} (h : WPO P X ops rest K s) (hk : ∀ s, K s → K' s) : WPO P X ops rest K' s := fun Qc a w hK hr => h Qc a w (fun s' a' w' h1 h2 => hK s' a' w' (hk _ h1) h2) hr
end
end Go.Proofs.YtahlodpolggeiaaGreatDoor.Eng
set_option linter.unusedVariables false
set_option linter.unusedSimpArgs false
namespace Go.Proofs.YtahlodpolggeiaaGreatDoor.Eng
open Go Go.RowKit
section
variable {P : Program} {C : Cx} {X : Ctx} {β : Type} {root : Code} {L : List Nat → Option LE}
end
end Go.Proofs.YtahlodpolggeiaaGreatDoor.Eng
set_option linter.unusedVariables false
set_option linter.unusedSimpArgs false
namespace Go.Proofs.YtahlodpolggeiaaGreatDoor.Eng
open Go Go.RowKit
def enumS (k : Nat) : List SV → List (Nat × SV)
 | [] => []
 | x :: r => (k, x) :: enumS (k + 1) r
inductive RV where
 | tmp (i : Nat)
 | cell (p ty : Nat)
def RV.var : RV → ResultVar
 | .tmp i => .tmp i
 | .cell p ty => .cell p ty
def resV (C : Cx) (s : TSt) : RV → SV
 | .tmp i => tget s.env i
 | .cell p ty => (match C.T ty, tget s.env p with
  | some i, .ptr id k _ j => (match nth s.heap id with
   | some (.box _ cs) => if k = 0 ∧ j + i.size ≤ cs.length ∧ 0 < i.size ∧ (i.k.agg = true ∨ i.size = 1) then cellsT i (cs.drop j) else .any
   | _ => .any)
  | _, _ => .any)
def resVs (C : Cx) (s : TSt) : List RV → List SV
 | [] => []
 | r :: l => resV C s r :: resVs C s l
def resK (C : Cx) (res : List Ty) (rs : List RV) (s : TSt) : Option (denL res) := let s1 := frzFor C.TY s (resVs C s rs); asTL [] res (resVs C s1 rs)
def retK (C : Cx) (res : List Ty) (rs : List RV) (e : Exit) (s : TSt) : Option (denL res) := match e with
 | .normal => resK C res rs s
 | .ret => resK C res rs s
 | _ => none
def svA : SV → SV
 | .val .nilS _ => .cst (.slice none 0 0)
 | .val (.fnc f) _ => .fn f []
 | .val (.ref t) x => .rp t x
 | x => x
theorem svA_ok (h : List TObj) (x : SV) : (svA x).toAV h = x.toAV h := by
 unfold svA
 split <;> rfl
theorem svAL_ok (h : List TObj) (l : List SV) : SV.toAVL h (l.map svA) = SV.toAVL h l := by
 rw [SV.toAVL_eq, SV.toAVL_eq, List.map_map]
 exact List.map_congr_left fun x _ => svA_ok h x
def startS (args : List Ty) (x : denL args) : TSt := ⟨enumS 0 ((svL args x).map svA), []⟩
section
variable {P : Program} {C : Cx} {X : Ctx} {root : Code} {L : List Nat → Option LE}
theorem asTL_any : ∀ (res : List Ty) (l : List SV) (y : denL res), asTL [] res l = some y → SV.any ∉ l := by
 intro res
 induction res with
 | nil => intro l y h; cases l with
  | nil => simp
  | cons x l => cases h
 | cons t r ih =>
  intro l y h
  cases l with
  | nil => simp
  | cons x l =>
   simp only [asTL] at h
   cases hp : asT [] t x with
   | none => rw [hp] at h; cases h
   | some p =>
    rw [hp] at h
    simp only at h
    cases hq : asTL [] r l with
    | none => rw [hq] at h; cases r <;> cases h
    | some q =>
     have h2 := ih l q hq
     simp only [List.mem_cons, not_or]
     refine ⟨fun e => ?_, h2⟩
     rw [← e, asT_any] at hp
     cases hp
theorem resAll_tmps (s : TSt) : ∀ rs : List RV, SV.any ∉ resVs C s rs → ∃ c, resAll C.T s.toSt (rs.map RV.var) = some (c, SV.toAVL s.heap (resVs C s rs)) ∧ c
 | [], _ => ⟨True, rfl, trivial⟩
 | r :: l, hno => by
  simp only [resVs, List.mem_cons, not_or] at hno
  obtain ⟨c, h1, h2⟩ := resAll_tmps s l hno.2
  have one : ∃ c', resOne C.T s.toSt r.var = some (c', (resV C s r).toAV s.heap) ∧ c' := by
   cases r with
   | tmp i => exact ⟨True, by simp only [RV.var, resOne, resV, TSt.toSt, tget_ok], trivial⟩
   | cell p ty =>
    have hne := hno.1
    simp only [resV] at hne ⊢
    cases hT : C.T ty with
    | none => rw [hT] at hne; exact absurd rfl hne
    | some i =>
     rw [hT] at hne
     cases hp : tget s.env p with
     | ptr id k sz j =>
      rw [hp] at hne
      simp only at hne ⊢
      cases hq : nth s.heap id with
      | none => rw [hq] at hne; exact absurd rfl hne
      | some ob =>
       rw [hq] at hne
       cases ob with
       | box e cs =>
        simp only at hne ⊢
        by_cases hc : k = 0 ∧ j + i.size ≤ cs.length ∧ 0 < i.size ∧ (i.k.agg = true ∨ i.size = 1)
        ·rw [if_pos hc]
         obtain ⟨rfl, h4, h5, h6⟩ := hc
         refine ⟨_, by simp only [RV.var, resOne, hT, TSt.toSt, tget_ok, hp, SV.toAV]; rw [show (List.map (TObj.toObj s.heap) s.heap)[id]? = some (.box e (SV.toAVL s.heap cs)) from by rw [List.getElem?_map, ← nth_eq, hq]; rfl]; simp only [objCells]; rw [toAVL_drop, cellsT_ok], ?_⟩
         refine ⟨by simp, by rw [toAVL_len]; exact h4, h5, fun h7 => ?_⟩
         rcases h6 with h6 | h6
         ·rw [h7] at h6; cases h6
         ·exact h6
        ·rw [if_neg hc] at hne; exact absurd rfl hne
       | _ => exact absurd rfl hne
     | _ => rw [hp] at hne; exact absurd rfl hne
  obtain ⟨c', h3, h4⟩ := one
  exact ⟨c' ∧ c, by simp only [List.map_cons, resAll, h1, h3, resVs, SV.toAVL], h4, h2⟩
theorem retAV_subL (f : AV → AV) (l : List AV) : (retAV l).sub f = retAV (l.map (AV.sub f)) := by
 cases l with
 | nil => rfl
 | cons x r =>
  cases r with
  | nil => rfl
  | cons y r => simp only [retAV, List.map_cons, AV.sub, AV.subL_eq]
theorem retAV_le {l m : List AV} (h : AV.leL l m) : AV.le (retAV l) (retAV m) := by
 cases l with
 | nil => cases m with
  | nil => exact .refl _
  | cons y r => exact h.elim
 | cons x r =>
  cases m with
  | nil => exact h.elim
  | cons y q =>
   cases r with
   | nil => cases q with
    | nil => exact h.1
    | cons z q => exact h.2.elim
   | cons x' r => cases q with
    | nil => exact h.2.elim
    | cons y' q => exact AV.leTup h
theorem enumS_ok (h : List TObj) : ∀ (l : List SV) (k : Nat), (enumS k l).map (fun p => (p.1, p.2.toAV h)) = enumFrom k (SV.toAVL h l)
 | [], _ => rfl
 | x :: r, k => by simp only [enumS, List.map_cons, SV.toAVL, enumFrom]; rw [enumS_ok h r]
theorem FnOK.of (hC : CxOK P C) {f : Nat} {func : Func} (hE : Enters P f) (hf : P.funcs[f]? = some func) (hb : func.body = some root) {fn : TFn} {rs : List RV} (hrs : func.results.toList = rs.map RV.var) (hn : fn.args.length + (func.ntmps - fn.args.length) = C.n)
  (hL : LsOK P C root L) (hstep : ∀ x, exF C L root [] (retK C fn.res rs) (startS fn.args x) = fn.run x) : FnOK P f fn := by
 refine ⟨hE, fun x r hr => ?_⟩
 have hlen : ∀ (ts : List Ty) (x : denL ts), (avL ts x).length = ts.length := by
  intro ts
  induction ts with
  | nil => exact fun x => rfl
  | cons t q ih =>
   intro x
   cases q with
   | nil => rfl
   | cons u q => simp only [avL, List.length_cons]; rw [ih x.2]; rfl
 refine FSpec.of_WP' hC.T hf hb (fun X hXn hXm => ?_)
 have hst : (startS fn.args x).toSt = ⟨enumFrom 0 (avL fn.args x), []⟩ := by
  simp only [startS, TSt.toSt, enumS_ok, svAL_ok, svL_av, List.map_nil]
 have h1 := exF_ok (β := denL fn.res) hC (X := X) (by rw [hXn, hlen]; exact hn) hXm hL root [] (retK C fn.res rs) (startS fn.args x) r rfl (by rw [hstep]; exact hr)
 unfold TW at h1
 rw [hst] at h1
 refine h1.monoR (fun e s hq => ?_)
 obtain ⟨s1, h2, h3, _⟩ := hq
 have key : resK C fn.res rs s1 = some r → ∃ s', (∀ a w, Rep X s a w → Rep X s' a w) ∧ Ret C.T func 0 (fun r' h => r' = retAV (avL fn.res r) ∧ h = []) s' := by
  intro h3
  unfold resK at h3
  have hfz := frzFor_ok (X := X) (C := C) (s := s1) (resVs C s1 rs)
  generalize frzFor C.TY s1 (resVs C s1 rs) = s2 at h3 hfz
  simp only at h3
  refine ⟨s2.toSt, h2.trans hfz.1, ?_⟩
  unfold Ret
  rw [hrs]
  obtain ⟨c, h4, h5⟩ := resAll_tmps (C := C) s2 rs (asTL_any _ _ _ h3)
  rw [h4]
  refine ⟨h5, [], by simp, by simp, _, ?_, rfl, by simp [selObjs]⟩
  have h6 := asTL_ok (Lends.none (renAt []) s2.heap) _ _ _ h3
  have e : List.range 0 ++ [] = ([] : List Nat) := rfl
  rw [e, retAV_subL]
  refine retAV_le ?_
  rw [SV.toAVL_eq]
  exact h6
 cases e with
 | normal => exact key h3
 | ret => exact key h3
 | _ => exact absurd h3 (by simp [retK])
def nilOwns (TY : Nat → Option Ty) : List Ty → List (Option Nat) → List RV → TSt → TSt
 | t :: ts, os, r :: rs, s => nilOwns TY ts os.tail rs (match t, ownHd os, r with
  | .slice u, some e, .tmp i => (match preF TY [.nil i e u] s with | some s' => s' | none => s)
  | _, _, _ => s)
 | _, _, _, s => s
def restOf : List (Option Nat) → List SV → List SV
 | _, [] => []
 | os, x :: l => (match ownHd os with | some _ => restOf os.tail l | none => x :: restOf os.tail l)
def consId : Option Nat → SV → List Nat → List Nat
 | some _, .own id _, r => id :: r
 | _, _, r => r
theorem consId_no {o : Option Nat} {x : SV} {r : List Nat} (h : ∀ e id sz, o = some e → x ≠ .own id sz) : consId o x r = r := by
 unfold consId
 split
 ·rename_i e id sz
  exact absurd rfl (h e id sz rfl)
 ·rfl
def ownIds : List (Option Nat) → List SV → List Nat
 | _, [] => []
 | os, x :: l => consId (ownHd os) x (ownIds os.tail l)
def noDup : List Nat → Bool
 | [] => true
 | x :: r => !memN r x && noDup r
def asO (h : List TObj) : (t : Ty) → Option Nat → SV → Option t.den
 | .slice u, some e, x => (match x with
  | .own id sz => (match nth h id with
   | some (.row e' u' xs) => if e' = e ∧ sz = u.size then castD (.slice u) (.slice u') xs else none
   | _ => none)
  | _ => none)
 | t, _, x => asT [] t x
def asTLO (h : List TObj) : (ts : List Ty) → List (Option Nat) → List SV → Option (denL ts)
 | [], _, l => (match l with | [] => some () | _ :: _ => none)
 | t :: r, os, l => (match l with
  | [] => none
  | x :: l => (match asO h t (ownHd os) x with
   | some a => consD t r a (asTLO h r os.tail l)
   | none => none))
def cutOwns {β : Type} : List (Option Nat) → List RV → TSt → (TSt → Option β) → Option β
 | os, r :: rs, s, k => (match ownHd os, r with
  | some _, .tmp i => (match tget s.env i with
   | .cut id sz 0 len => (match nth s.heap id with
    | some (.row e t xs) => (match decide (sz = t.size) with
     | true => ck (len ≤ List.length xs) (cutOwns os.tail rs ((s.subAll (killS id) id (.row e t (List.take len xs))).put (some i) (.own id sz)) k)
     | false => none)
    | _ => none)
   | _ => cutOwns os.tail rs s k)
  | _, _ => cutOwns os.tail rs s k)
 | _, [], s, k => k s
def resKO (C : Cx) (res : List Ty) (own : List (Option Nat)) (rs : List RV) (s : TSt) : Option (denL res) :=
 cutOwns own rs (nilOwns C.TY res own rs s) fun s0 =>
 let s1 := frzFor C.TY s0 (restOf own (resVs C s0 rs))
 match noDup (ownIds own (resVs C s1 rs)) with
 | true => asTLO s1.heap res own (resVs C s1 rs)
 | false => none
def retKO (C : Cx) (res : List Ty) (own : List (Option Nat)) (rs : List RV) (e : Exit) (s : TSt) : Option (denL res) := match e with
 | .normal => resKO C res own rs s
 | .ret => resKO C res own rs s
 | _ => none
theorem nilOwns_ok (TY : Nat → Option Ty) : ∀ (ts : List Ty) (os : List (Option Nat)) (rs : List RV) (s : TSt), Imp X s.toSt (nilOwns TY ts os rs s).toSt := by
 intro ts
 induction ts with
 | nil => intro os rs s; exact .refl _ _
 | cons t ts ih =>
  intro os rs s
  cases rs with
  | nil => exact .refl _ _
  | cons r rs =>
   unfold nilOwns
   refine Imp.trans ?_ (ih _ _ _)
   split
   ·rename_i u e i _
    cases hp : preF TY [.nil i e u] s with
    | none => exact .refl _ _
    | some s' => exact preF_ok TY _ _ _ hp
   ·exact .refl _ _
theorem cutOwns_ok {β : Type} (hm : X.m = 0) : ∀ (rs : List RV) (os : List (Option Nat)) (s : TSt) (k : TSt → Option β) (r : β), cutOwns os rs s k = some r → ∃ s', k s' = some r ∧ Imp X s.toSt s'.toSt := by
 intro rs
 induction rs with
 | nil =>
  intro os s k r h
  exact ⟨s, by unfold cutOwns at h; exact h, .refl _ _⟩
 | cons q rs ih =>
  intro os s k r h
  unfold cutOwns at h
  split at h
  ·rename_i i _
   split at h
   ·rename_i id sz len hi
    split at h
    ·rename_i e t xs hq
     split at h
     ·rename_i hd
      obtain rfl := of_decide_eq_true hd
      obtain ⟨hc, h⟩ := ck_some h
      obtain ⟨s', h1, h2⟩ := ih _ _ k r h
      refine ⟨s', h1, Imp.trans (fun a w hr => ?_) h2⟩
      have hq' : s.toSt.heap[id]? = some (.row e t.size (List.map t.cells xs)) := by rw [TSt.heap_get, hq]; rfl
      have h4 := Rep.takeRow hr hm (i := i) (len := len) (by simp only [TSt.toSt, tget_ok]; rw [hi]; rfl) hq' (by rw [mapLen (u := t) xs]; exact hc)
      refine h4.weak ?_
      rw [TSt.put_ok]
      have h5 := subAll_le (s := s) (f := killAt id) (g := killS id) (id := id) (ob := .row e t (List.take len xs)) (oa := .row e t.size ((List.map t.cells xs).take len)) sub_kill (by
       have e2 : (List.map t.cells xs).take len = (List.take len xs).map t.cells := (List.map_take ..).symm
       rw [e2]; exact ObjLe.refl _)
      refine StLe.put (s := ⟨envSub (killAt id) s.toSt.env, (s.toSt.heap.map (AObj.sub (killAt id))).set id (.row e t.size ((List.map t.cells xs).take len))⟩) h5 ?_ (some i)
      have hid : id < s.heap.length := by rw [nth_eq] at hq; exact (List.getElem?_eq_some_iff.1 hq).1
      simp only [SV.toAV]
      rw [rowLen_of (e := e) (t := t) (xs := List.take len xs) (by rw [nth_eq]; simp [TSt.subAll, setH_eq, hid])]
      have e3 : (List.take len xs).length = len := by
       have e4 : (List.take len xs).length = min len (List.length xs) := List.length_take ..
       rw [e4]; omega
      rw [e3]
      exact .refl _
     ·cases h
    ·cases h
   ·exact ih _ _ _ _ h
  ·exact ih _ _ _ _ h
theorem memN_notin : ∀ {l : List Nat} {x : Nat}, memN l x = false → x ∉ l
 | [], x, _ => by simp
 | y :: r, x, h => by
  unfold memN at h
  split at h
  ·cases h
  ·rename_i e
   simp only [List.mem_cons, not_or]
   exact ⟨fun h' => e h'.symm, memN_notin h⟩
theorem noDup_ok : ∀ {l : List Nat}, noDup l = true → l.Nodup
 | [], _ => List.nodup_nil
 | x :: r, h => by
  simp only [noDup, Bool.and_eq_true, Bool.not_eq_true'] at h
  exact List.nodup_cons.2 ⟨memN_notin h.1, noDup_ok h.2⟩
theorem idx_of : ∀ {l : List Nat} {k i : Nat}, l.Nodup → l[k]? = some i → idx l i = some k
 | [], _, _, _, h => by simp at h
 | a :: r, 0, i, _, h => by simp at h; subst h; simp [idx]
 | a :: r, k + 1, i, hn, h => by
  rw [List.nodup_cons] at hn
  have h1 : r[k]? = some i := by simpa using h
  have hne : i ≠ a := fun e => hn.1 (e ▸ List.mem_of_getElem? h1)
  simp [idx, hne, idx_of hn.2 h1]
theorem asO_ok {h : List TObj} {K : List Nat} {n : Nat} (hK : K.Nodup) (t : Ty) (o : Option Nat) (x : SV) (y : t.den) (hy : asO h t o x = some y) (hn : ∀ e id sz, o = some e → x = .own id sz → K[n]? = some id) :
  AV.le ((x.toAV h).sub (renAt K)) (ownAV n t o y) ∧ ((∃ e id sz u, ∃ xs : List u.den, o = some e ∧ x = .own id sz ∧ h[id]? = some (.row e u xs) ∧ ownObj t o y = [.row e u xs]) ∨ (ownObj t o y = [] ∧ ∀ e id sz, o = some e → x ≠ .own id sz)) := by
 have plain : asT [] t x = some y → ownAV n t o y = t.av y → ownObj t o y = [] → (∀ e id sz, o = some e → x ≠ .own id sz) → AV.le ((x.toAV h).sub (renAt K)) (ownAV n t o y) ∧ ((∃ e id sz u, ∃ xs : List u.den, o = some e ∧ x = .own id sz ∧ h[id]? = some (.row e u xs) ∧ ownObj t o y = [.row e u xs]) ∨ (ownObj t o y = [] ∧ ∀ e id sz, o = some e → x ≠ .own id sz)) := by
  intro h1 h2 h3 h4
  rw [h2]
  exact ⟨asT_ok (Lends.none _ h) h1, .inr ⟨h3, h4⟩⟩
 cases o with
 | none =>
  refine plain ?_ ?_ ?_ (fun e id sz he => by cases he)
  ·cases t <;> exact hy
  ·cases t <;> rfl
  ·cases t <;> rfl
 | some e =>
  cases t with
  | slice u =>
   simp only [asO] at hy
   split at hy
   ·rename_i id sz
    split at hy
    ·rename_i e' u' xs hq
     split at hy
     ·rename_i he
      obtain ⟨rfl, rfl⟩ := he
      obtain ⟨hty, hv⟩ := castD_ok hy
      cases hty
      have hv' : (xs : (Ty.slice u).den) = y := hv
      subst hv'
      rw [nth_eq] at hq
      refine ⟨?_, .inl ⟨e', id, _, u, xs, rfl, rfl, hq, rfl⟩⟩
      simp only [SV.toAV, AV.sub, renAt, idx_of hK (hn e' id _ rfl rfl), ownAV]
      rw [rowLen_of (by rw [nth_eq]; exact hq)]
      exact .refl _
     ·cases hy
    ·cases hy
   ·cases hy
  | int k => exact plain hy rfl rfl (fun e' id sz _ hx => by subst hx; simp [asO, asT, Ty.isAgg, asm] at hy)
  | byte => exact plain hy rfl rfl (fun e' id sz _ hx => by subst hx; simp [asO, asT, Ty.isAgg, asm] at hy)
  | bool => exact plain hy rfl rfl (fun e' id sz _ hx => by subst hx; simp [asO, asT, Ty.isAgg, asm] at hy)
  | str => exact plain hy rfl rfl (fun e' id sz _ hx => by subst hx; simp [asO, asT, Ty.isAgg, asm] at hy)
  | one u => exact plain hy rfl rfl (fun e' id sz _ hx => by subst hx; simp [asO, asT, Ty.isAgg] at hy)
  | pair a b => exact plain hy rfl rfl (fun e' id sz _ hx => by subst hx; simp [asO, asT, Ty.isAgg] at hy)
  | ptr u => exact plain hy rfl rfl (fun e' id sz _ hx => by subst hx; simp [asO, asT, Ty.isAgg, asm] at hy)
  | nilS => exact plain hy rfl rfl (fun e' id sz _ hx => by subst hx; simp [asO, asT, Ty.isAgg, asm] at hy)
  | nilI => exact plain hy rfl rfl (fun e' id sz _ hx => by subst hx; simp [asO, asT, Ty.isAgg, asm] at hy)
  | adr => exact plain hy rfl rfl (fun e' id sz _ hx => by subst hx; simp [asO, asT, Ty.isAgg, asm] at hy)
  | mp t => exact plain hy rfl rfl (fun e' id sz _ hx => by subst hx; simp [asO, asT, Ty.isAgg, asm] at hy)
  | mq t => exact plain hy rfl rfl (fun e' id sz _ hx => by subst hx; simp [asO, asT, Ty.isAgg, asm] at hy)
  | fnc f => exact plain hy rfl rfl (fun e' id sz _ hx => by subst hx; simp [asO, asT, Ty.isAgg, asm] at hy)
  | clo f c => exact plain hy rfl rfl (fun e' id sz _ hx => by subst hx; simp [asO, asT, Ty.isAgg, asm] at hy)
  | ref t => exact plain hy rfl rfl (fun e' id sz _ hx => by subst hx; simp [asO, asT, Ty.isAgg, asm] at hy)
theorem resO_ok {h : List TObj} {K : List Nat} (hK : K.Nodup) : ∀ (ts : List Ty) (os : List (Option Nat)) (xs : List SV) (y : denL ts) (n : Nat), asTLO h ts os xs = some y → (∀ (j id : Nat), (ownIds os xs)[j]? = some id → K[n + j]? = some id) →
  AV.leL ((SV.toAVL h xs).map (AV.sub (renAt K))) (avLO n ts os y) ∧ (∀ (j : Nat) (ob : TObj), (ownObjs ts os y)[j]? = some ob → ∃ id, (ownIds os xs)[j]? = some id ∧ h[id]? = some ob) ∧ (ownIds os xs).length = (ownObjs ts os y).length := by
 intro ts
 induction ts with
 | nil =>
  intro os xs y n hy hn
  cases xs with
  | nil => exact ⟨trivial, fun j ob hob => by simp [ownObjs] at hob, rfl⟩
  | cons x l => cases hy
 | cons t r ih =>
  intro os xs y n hy hn
  cases xs with
  | nil => cases hy
  | cons x l =>
   simp only [asTLO] at hy
   cases hp : asO h t (ownHd os) x with
   | none => rw [hp] at hy; cases hy
   | some p =>
    rw [hp] at hy
    simp only at hy
    cases hq : asTLO h r os.tail l with
    | none => rw [hq] at hy; cases r <;> cases hy
    | some q =>
     rw [hq] at hy
     have h1 := asO_ok (n := n) hK t (ownHd os) x p hp (fun e id sz he hx => hn 0 id (by simp only [ownIds, he, hx, consId]; rfl))
     have hids : (∃ id, ownIds os (x :: l) = id :: ownIds os.tail l ∧ (ownObj t (ownHd os) p).length = 1 ∧ ∀ (j : Nat) (ob : TObj), (ownObj t (ownHd os) p)[j]? = some ob → j = 0 ∧ h[id]? = some ob) ∨ (ownIds os (x :: l) = ownIds os.tail l ∧ ownObj t (ownHd os) p = []) := by
      rcases h1.2 with ⟨e, id, sz, u, zs, he, hx, hid, hob⟩ | ⟨hob, hno⟩
      ·refine .inl ⟨id, by simp only [ownIds, he, hx, consId], by rw [hob]; rfl, fun j ob hj => ?_⟩
       rw [hob] at hj
       cases j with
       | zero => simp at hj; subst hj; exact ⟨rfl, hid⟩
       | succ j => simp at hj
      ·refine .inr ⟨?_, hob⟩
       exact consId_no hno
     have step : ∀ (n' : Nat), n' = n + (ownObj t (ownHd os) p).length → AV.leL ((SV.toAVL h l).map (AV.sub (renAt K))) (avLO n' r os.tail q) ∧ (∀ (j : Nat) (ob : TObj), (ownObjs r os.tail q)[j]? = some ob → ∃ id, (ownIds os.tail l)[j]? = some id ∧ h[id]? = some ob) ∧ (ownIds os.tail l).length = (ownObjs r os.tail q).length := by
      intro n' hn'
      refine ih os.tail l q n' hq (fun j id hj => ?_)
      rcases hids with ⟨id0, e1, e2, _⟩ | ⟨e1, e2⟩
      ·have := hn (j + 1) id (by rw [e1]; simpa using hj)
       rw [hn', e2, show n + 1 + j = n + (j + 1) by omega]; exact this
      ·rw [hn', e2]; exact hn j id (by rw [e1]; exact hj)
     have comb : ∀ (l2 : List TObj), (∀ (j : Nat) (ob : TObj), l2[j]? = some ob → ∃ id, (ownIds os.tail l)[j]? = some id ∧ h[id]? = some ob) → (ownIds os.tail l).length = l2.length →
       (∀ (j : Nat) (ob : TObj), (ownObj t (ownHd os) p ++ l2)[j]? = some ob → ∃ id, (ownIds os (x :: l))[j]? = some id ∧ h[id]? = some ob) ∧ (ownIds os (x :: l)).length = (ownObj t (ownHd os) p ++ l2).length := by
      intro l2 g1 g2
      rcases hids with ⟨id0, e1, e2, e3⟩ | ⟨e1, e2⟩
      ·refine ⟨fun j ob hj => ?_, by rw [e1, List.length_append, e2, List.length_cons, g2]; omega⟩
       rw [e1]
       cases j with
       | zero =>
        rw [List.getElem?_append_left (by omega)] at hj
        exact ⟨id0, rfl, (e3 0 ob hj).2⟩
       | succ j =>
        rw [List.getElem?_append_right (by omega), e2] at hj
        obtain ⟨id, h5, h6⟩ := g1 j ob (by simpa using hj)
        exact ⟨id, by simpa using h5, h6⟩
      ·rw [e1, e2]; exact ⟨g1, g2⟩
     cases r with
     | nil =>
      cases hy
      obtain ⟨s1, s2, s3⟩ := step _ rfl
      obtain ⟨c1, c2⟩ := comb [] (fun j ob hj => by simp at hj) (by
       cases l with
       | nil => rfl
       | cons _ _ => cases hq)
      rw [List.append_nil] at c1 c2
      exact ⟨⟨h1.1, by cases l with | nil => trivial | cons _ _ => cases hq⟩, c1, c2⟩
     | cons u r =>
      cases hy
      obtain ⟨s1, s2, s3⟩ := step _ rfl
      obtain ⟨c1, c2⟩ := comb _ s2 s3
      exact ⟨⟨h1.1, s1⟩, c1, c2⟩
theorem asTLO_any {h : List TObj} : ∀ (res : List Ty) (os : List (Option Nat)) (l : List SV) (y : denL res), asTLO h res os l = some y → SV.any ∉ l := by
 intro res
 induction res with
 | nil => intro os l y hy; cases l with
  | nil => simp
  | cons x l => cases hy
 | cons t r ih =>
  intro os l y hy
  cases l with
  | nil => simp
  | cons x l =>
   simp only [asTLO] at hy
   cases hp : asO h t (ownHd os) x with
   | none => rw [hp] at hy; cases hy
   | some p =>
    rw [hp] at hy
    simp only at hy
    cases hq : asTLO h r os.tail l with
    | none => rw [hq] at hy; cases r <;> cases hy
    | some q =>
     have h2 := ih _ l q hq
     simp only [List.mem_cons, not_or]
     refine ⟨fun e => ?_, h2⟩
     subst e
     have hno : ∀ o, asO h t o .any = none := fun o => by
      cases o <;> cases t <;> rfl
     rw [hno] at hp; cases hp
theorem FnOKo.of (hC : CxOK P C) {f : Nat} {func : Func} (hE : Enters P f) (hf : P.funcs[f]? = some func) (hb : func.body = some root) {fn : TFo} {rs : List RV} (hrs : func.results.toList = rs.map RV.var) (hn : fn.args.length + (func.ntmps - fn.args.length) = C.n)
  (hL : LsOK P C root L) (hstep : ∀ x, exF C L root [] (retKO C fn.res fn.own rs) (startS fn.args x) = fn.run x) : FnOKo P f fn := by
 refine ⟨hE, fun x r hr => ?_⟩
 have hlen : ∀ (ts : List Ty) (x : denL ts), (avL ts x).length = ts.length := by
  intro ts
  induction ts with
  | nil => exact fun x => rfl
  | cons t q ih =>
   intro x
   cases q with
   | nil => rfl
   | cons u q => simp only [avL, List.length_cons]; rw [ih x.2]; rfl
 refine FSpec.of_WP' hC.T hf hb (fun X hXn hXm => ?_)
 have hst : (startS fn.args x).toSt = ⟨enumFrom 0 (avL fn.args x), []⟩ := by
  simp only [startS, TSt.toSt, enumS_ok, svAL_ok, svL_av, List.map_nil]
 have h1 := exF_ok (β := denL fn.res) hC (X := X) (by rw [hXn, hlen]; exact hn) hXm hL root [] (retKO C fn.res fn.own rs) (startS fn.args x) r rfl (by rw [hstep]; exact hr)
 unfold TW at h1
 rw [hst] at h1
 refine h1.monoR (fun e s hq => ?_)
 obtain ⟨s1, h2, h3, _⟩ := hq
 have key : resKO C fn.res fn.own rs s1 = some r → ∃ s', (∀ a w, Rep X s a w → Rep X s' a w) ∧ Ret C.T func 0 (fun r' h => r' = retAV (avLO 0 fn.res fn.own r) ∧ h = (ownObjs fn.res fn.own r).map (TObj.toObj [])) s' := by
  intro h3
  unfold resKO at h3
  have hno0 := nilOwns_ok (X := X) C.TY fn.res fn.own rs s1
  obtain ⟨s0, h3, hno1⟩ := cutOwns_ok hXm _ _ _ _ _ h3
  have hno := hno0.trans hno1
  simp only at h3
  have hfz := frzFor_ok (X := X) (C := C) (s := s0) (restOf fn.own (resVs C s0 rs))
  generalize frzFor C.TY s0 (restOf fn.own (resVs C s0 rs)) = s2 at h3 hfz
  split at h3
  ·rename_i hnd
   have hK := noDup_ok hnd
   refine ⟨s2.toSt, (h2.trans hno).trans hfz.1, ?_⟩
   unfold Ret
   rw [hrs]
   obtain ⟨c, h4, h5⟩ := resAll_tmps (C := C) s2 rs (asTLO_any _ _ _ _ h3)
   rw [h4]
   obtain ⟨h6, h7, h8⟩ := resO_ok hK _ _ _ _ 0 h3 (fun j id hj => by rw [Nat.zero_add]; exact hj)
   have hlen2 : s2.toSt.heap.length = s2.heap.length := by simp [TSt.toSt]
   have hget : ∀ (j id : Nat), (ownIds fn.own (resVs C s2 rs))[j]? = some id → ∃ ob, (ownObjs fn.res fn.own r)[j]? = some ob ∧ s2.heap[id]? = some ob := by
    intro j id hj
    have hjl : j < (ownObjs fn.res fn.own r).length := by rw [← h8]; exact (List.getElem?_eq_some_iff.1 hj).1
    obtain ⟨id', e1, e2⟩ := h7 j _ (List.getElem?_eq_getElem hjl)
    rw [hj] at e1; cases e1
    exact ⟨_, List.getElem?_eq_getElem hjl, e2⟩
   refine ⟨h5, ownIds fn.own (resVs C s2 rs), by simpa using hK, fun i hi => ?_, _, ?_, rfl, ?_⟩
   ·obtain ⟨j, hj⟩ := List.getElem?_of_mem hi
    obtain ⟨ob, _, h9⟩ := hget j i hj
    rw [hlen2]; exact (List.getElem?_eq_some_iff.1 h9).1
   ·have e : List.range 0 ++ ownIds fn.own (resVs C s2 rs) = ownIds fn.own (resVs C s2 rs) := rfl
    rw [e, retAV_subL]
    exact retAV_le h6
   ·have e : List.range 0 ++ ownIds fn.own (resVs C s2 rs) = ownIds fn.own (resVs C s2 rs) := rfl
    rw [e]
    apply List.ext_getElem?
    intro j
    simp only [selObjs, List.getElem?_map]
    cases hj : (ownIds fn.own (resVs C s2 rs))[j]? with
    | none =>
     rw [List.getElem?_eq_none (by rw [← h8]; exact List.getElem?_eq_none_iff.1 hj)]; rfl
    | some id =>
     obtain ⟨ob, e1, e2⟩ := hget j id hj
     rw [e1]
     simp only [Option.map_some]
     have e3 : s2.toSt.heap[id]? = some (ob.toObj s2.heap) := by simp [TSt.toSt, e2]
     rw [e3, Option.getD_some, row_sub (ownObjs_row _ _ _ ob (List.mem_of_getElem? e1)) _ _ []]
  ·cases h3
 cases e with
 | normal => exact key h3
 | ret => exact key h3
 | _ => exact absurd h3 (by simp [retKO])
def eqNL : List Nat → List Nat → Bool
 | [], [] => true
 | x :: r, y :: q => (match decide (x = y) with | true => eqNL r q | false => false)
 | [], _ :: _ => false
 | _ :: _, [] => false
def lkO : List ((Nat × List Nat) × TFo) → Nat → List Nat → Option TFo
 | [], _ => fun _ => none
 | ((g, ks), fn) :: r, f => fun ks' => (match decide (g = f), eqNL ks ks' with | true, true => some fn | _, _ => lkO r f ks')
def OsOK (P : Program) (l : List ((Nat × List Nat) × TFo)) : Prop := ∀ f ks fn, lkO l f ks = some fn → FnOKo P f fn
theorem OsOK.nil : OsOK P [] := fun f ks fn h => by cases h
theorem OsOK.cons {l : List ((Nat × List Nat) × TFo)} {g : Nat} {ks : List Nat} {fn : TFo} (h : FnOKo P g fn) (hl : OsOK P l) : OsOK P (((g, ks), fn) :: l) := by
 intro f ks' fn' h'
 unfold lkO at h'
 split at h'
 ·rename_i he _
  cases h'
  rw [← of_decide_eq_true he]; exact h
 ·exact hl f ks' fn' h'
theorem mps_of (l : List (Nat × Nat)) (h : l.all (fun p => mapB P p.1 p.2) = true) : ∀ t e, mapGet l t = some e → mapB P t e = true := by
 induction l with
 | nil => exact fun t e h => by cases h
 | cons p r ih =>
  obtain ⟨k, e'⟩ := p
  intro t e ht
  rw [List.all_cons, Bool.and_eq_true] at h
  unfold mapGet at ht
  split at ht
  ·rename_i hk; subst hk; cases ht; exact h.1
  ·exact ih h.2 t e ht
theorem eqs_of (l : List Nat) (h : l.all (eqB P) = true) : ∀ t, memN l t = true → eqB P t = true := fun t ht => List.all_eq_true.1 h t (memN_ok l t ht)
def eqLN : List Nat → List Nat → Bool
 | [], [] => true
 | a :: r, b :: q => (match decide (a = b) with | true => eqLN r q | false => false)
 | _, _ => false
theorem eqLN_ok : ∀ {l m : List Nat}, eqLN l m = true → l = m
 | [], [], _ => rfl
 | a :: r, b :: q, h => by
  unfold eqLN at h
  split at h
  ·rename_i e; rw [of_decide_eq_true e, eqLN_ok h]
  ·cases h
def lkL : List (List Nat × LE) → List Nat → Option LE
 | [], _ => none
 | (q, e) :: r, p => (match eqLN q p with | true => some e | false => lkL r p)
theorem LsOK.nil : LsOK P C root (lkL []) := fun p ent b h => by cases h
def bodyAt (root : Code) (p : List Nat) : Code := match atC root p with
 | some (.loop b) => b
 | _ => .skip
theorem LsOK.cons (hC : CxOK P C) {l : List (List Nat × LE)} (hl : LsOK P C root (lkL l)) {q : List Nat} {ent : Ent} (hfit : ent.fits (bodyAt root q) = true)
  (hstep : ∀ iv x, exF C (lkL l) (bodyAt root q) (0 :: q) ent.kd (ent.head iv x) = ent.step iv x) : LsOK P C root (lkL ((q, LE.w ent) :: l)) := by
 intro p ent' b h hat
 unfold lkL at h
 split at h
 ·rename_i he
  obtain rfl := eqLN_ok he
  cases h
  have e : bodyAt root q = b := by simp only [bodyAt, hat]
  rw [e] at hfit hstep
  exact LoopOK.of hC hl hat hfit hstep
 ·exact hl p ent' b h hat
def lkS : List ((Nat × Nat) × SFn) → Nat → Nat → Option SFn
 | [], _, _ => none
 | (p, sf) :: r, f, g => (match decide (p.1 = f) && decide (p.2 = g) with | true => some sf | false => lkS r f g)
def SoOK (P : Program) (f g : Nat) (sf : SFn) : Prop := Enters P f ∧ sf.t.plain = true ∧ ∀ xs ys, sf.run xs = some ys → PairOf P f g sf xs ys
def SsOK (P : Program) (l : List ((Nat × Nat) × SFn)) : Prop := ∀ f g sf, lkS l f g = some sf → SoOK P f g sf
theorem SsOK.nil {P : Program} : SsOK P [] := fun f g sf h => by cases h
theorem SsOK.cons {P : Program} {f g : Nat} {sf : SFn} {l : List ((Nat × Nat) × SFn)} (h : SoOK P f g sf) (k : SsOK P l) : SsOK P (((f, g), sf) :: l) := by
 intro f' g' sf' h'
 simp only [lkS] at h'
 cases hd : decide (f = f') && decide (g = g') with
 | true =>
  rw [hd] at h'
  cases h'
  rw [Bool.and_eq_true, decide_eq_true_eq, decide_eq_true_eq] at hd
  obtain ⟨rfl, rfl⟩ := hd
  exact h
 | false => rw [hd] at h'; exact k f' g' sf' h'
def lkF : List ((Nat × List Nat) × TFn) → Nat → List Nat → Option TFn
 | [], _ => fun _ => none
 | ((g, ks), fn) :: r, f => fun ks' => (match decide (g = f), eqNL ks ks' with | true, true => some fn | _, _ => lkF r f ks')
def FsOK (P : Program) (l : List ((Nat × List Nat) × TFn)) : Prop := ∀ f ks fn, lkF l f ks = some fn → FnOK P f fn
theorem FsOK.nil : FsOK P [] := fun f ks fn h => by cases h
theorem FsOK.cons {l : List ((Nat × List Nat) × TFn)} {g : Nat} {ks : List Nat} {fn : TFn} (h : FnOK P g fn) (hl : FsOK P l) : FsOK P (((g, ks), fn) :: l) := by
 intro f ks' fn' h'
 unfold lkF at h'
 split at h'
 ·rename_i he _
  cases h'
  rw [← of_decide_eq_true he]; exact h
 ·exact hl f ks' fn' h'
def lkP : List (Nat × Nat × Plan) → Nat → Option (Nat × Plan)
 | [], _ => none
 | p :: r, i => if i = p.1 then some p.2 else lkP r i
def lkD : List (Nat × Nat × List (Nat × Bool) × Option (Nat × List (Nat × Bool) × Nat × List (Nat × Bool))) → Nat → Option (Nat × List (Nat × Bool) × Option (Nat × List (Nat × Bool) × Nat × List (Nat × Bool)))
 | [], _ => none
 | (r, d) :: l, k => (match decide (r = k) with | true => some d | false => lkD l k)
def lkT : List (Nat × Ty) → Nat → Option Ty
 | [], _ => none
 | (r, d) :: l, k => (match decide (r = k) with | true => some d | false => lkT l k)
end
end Go.Proofs.YtahlodpolggeiaaGreatDoor.Eng
set_option linter.unusedVariables false
namespace Go.Proofs.YtahlodpolggeiaaGreatDoor.Eng
open Go
section
variable {α β γ : Type}
inductive Tr where
 | leaf
 | node (a b : Tr)
def mix : Tr → Option β → Option β
 | .leaf, t => t
 | .node a b, t => both (mix a t) (mix b t)
theorem mix_eq : ∀ (s : Tr) (t : Option β), mix s t = t
 | .leaf, t => rfl
 | .node a b, t => by rw [mix, mix_eq a, mix_eq b]; exact both_same t
theorem cb_t {x y : Option β} : cb true x y = x := rfl
theorem cb_f {x y : Option β} : cb false x y = y := rfl
theorem cb_dec {p : Prop} [h : Decidable p] {x y : Option β} : cb (decide p) x y = if p then x else y := by
 by_cases hp : p <;> simp [hp, cb]
theorem cb_not {b : Bool} {x y : Option β} : cb (!b) x y = cb b y x := by cases b <;> rfl
theorem ob_s {a : α} {k : α → Option β} : ob (some a) k = k a := rfl
theorem caseS_l {a : α} {f : α → Option β} {g : γ → Option β} : caseS (.inl a) f g = f a := rfl
theorem caseS_r {a : γ} {f : α → Option β} {g : γ → Option β} : caseS (.inr a) f g = g a := rfl
theorem ck_in {x : Int} {a : Option β} (h1 : -9223372036854775808 ≤ x) (h2 : x ≤ 9223372036854775807) : ck (InR x) a = a := ck_pos ⟨h1, h2⟩
theorem rd_nat (d : α) (xs : List α) (k : Nat) : rd d xs (k : Int) = xs.getD k d := rfl
theorem rd_some {d : α} {xs : List α} {k : Nat} {x : α} (h : xs[k]? = some x) : rd d xs (k : Int) = x := by rw [rd_nat, List.getD, h]; rfl
theorem rd_lt {d : α} {xs : List α} {k : Nat} (h : k < xs.length) : rd d xs (k : Int) = xs[k] := rd_some (List.getElem?_eq_getElem h)
theorem loopX_done {X R : Type} {f : X → Option (X ⊕ R)} {x : X} {r : R} (h : f x = some (.inr r)) : loopX f x = some r := by rw [loopX_step, h]
theorem loopX_next {X R : Type} {f : X → Option (X ⊕ R)} {x x' : X} (h : f x = some (.inl x')) : loopX f x = loopX f x' := by rw [loopX_step, h]
end
end Go.Proofs.YtahlodpolggeiaaGreatDoor.Eng
set_option linter.unusedVariables false
set_option linter.unusedSimpArgs false
namespace Go.Proofs.YtahlodpolggeiaaGreatDoor.Eng
open Go Go.RowKit
def tyLB (S : Nat → Ty → Bool) : List Nat → Ty → Bool
 | [e], ty => S e ty
 | e :: e2 :: r, .pair a b => S e a && tyLB S (e2 :: r) b
 | _, _ => false
def tyB (T : Tab) : Nat → Nat → Ty → Bool
 | 0, _, _ => false
 | m + 1, t, .int k => (match T t with | some ⟨.int k', _, _, _⟩ => decide (k' = k) | _ => false)
 | m + 1, t, .byte => (match T t with | some ⟨.int k', _, _, _⟩ => decide (k' = .u8) | _ => false)
 | m + 1, t, .bool => (match T t with | some ⟨.bool, _, _, _⟩ => true | _ => false)
 | m + 1, t, .str => (match T t with | some ⟨.str, _, _, _⟩ => true | _ => false)
 | m + 1, t, .slice u => (match T t with | some ⟨.slice e, _, _, _⟩ => (match T e with | some i => decide (i.size = u.size) && tyB T m e u | none => false) | _ => false)
 | m + 1, t, .one u => (match T t with | some ⟨.struct fs, _, _, _⟩ => tyLB (tyB T m) (fs.map (·.2)) u | _ => false)
 | m + 1, t, .pair a b => (match T t with | some ⟨.struct fs, _, _, _⟩ => tyLB (tyB T m) (fs.map (·.2)) (.pair a b) | _ => false)
 | m + 1, _, .ptr _ => false
 | m + 1, _, .nilS => false
 | m + 1, _, .nilI => false
 | m + 1, _, .adr => false
 | m + 1, _, .mp _ => false
 | m + 1, _, .mq _ => false
 | m + 1, _, .fnc _ => false
 | m + 1, _, .clo _ _ => false
 | m + 1, _, .ref _ => false
def InL (S : Nat → (ty : Ty) → ty.den → Prop) : List Nat → (ty : Ty) → ty.den → Prop
 | [e], ty, x => S e ty x
 | e :: e2 :: r, .pair a b, x => S e a x.1 ∧ InL S (e2 :: r) b x.2
 | _, _, _ => True
def InD (T : Tab) : Nat → Nat → (ty : Ty) → ty.den → Prop
 | 0, _, _, _ => True
 | m + 1, t, .int k, x => (Lit.int k x).wf = true
 | m + 1, t, .str, x => ByteArray.size x ≤ reachBytes
 | m + 1, t, .slice u, xs => (match T t with | some ⟨.slice e, _, _, _⟩ => (match T e with | some i => List.length xs * i.bytes ≤ reachBytes ∧ ∀ x : u.den, List.Mem x xs → InD T m e u x | none => True) | _ => True)
 | m + 1, t, .one u, x => (match T t with | some ⟨.struct fs, _, _, _⟩ => InL (InD T m) (fs.map (·.2)) u x | _ => True)
 | m + 1, t, .pair a b, x => (match T t with | some ⟨.struct fs, _, _, _⟩ => InL (InD T m) (fs.map (·.2)) (.pair a b) x | _ => True)
 | _, _, _, _ => True
theorem shapeL_ty {S : Nat → List AV → Prop} {B : Nat → Ty → Bool} {D : Nat → (ty : Ty) → ty.den → Prop} (h : ∀ e ty xs, B e ty = true → S e xs → ∃ x : ty.den, xs = ty.cells x ∧ D e ty x) :
  ∀ (es : List Nat) (ty : Ty) (xs : List AV), tyLB B es ty = true → ShapeL S es xs → ∃ x : ty.den, xs = ty.cells x ∧ InL D es ty x := by
 intro es
 induction es with
 | nil => intro ty xs hb _; cases ty <;> cases hb
 | cons e r ih =>
  intro ty xs hb hs
  obtain ⟨a, b, rfl, ha, hb'⟩ := hs
  cases r with
  | nil =>
   have e0 : b = [] := hb'
   subst e0
   have hb2 : B e ty = true := by cases ty <;> exact hb
   obtain ⟨x, h1, h2⟩ := h e ty a hb2 ha
   refine ⟨x, by rw [h1, List.append_nil], ?_⟩
   cases ty <;> exact h2
  | cons e2 r =>
   cases ty with
   | pair p q =>
    simp only [tyLB, Bool.and_eq_true] at hb
    obtain ⟨x, h1, h2⟩ := h e p a hb.1 ha
    obtain ⟨y, h3, h4⟩ := ih q b hb.2 hb'
    exact ⟨(x, y), by rw [h1, h3]; rfl, h2, h4⟩
   | int _ => cases hb
   | byte => cases hb
   | bool => cases hb
   | str => cases hb
   | slice _ => cases hb
   | one _ => cases hb
   | ptr _ => cases hb
   | nilS => cases hb
   | nilI => cases hb
   | adr => cases hb
   | mp t => cases hb
   | mq t => cases hb
   | fnc _ => cases hb
   | clo _ _ => cases hb
   | ref _ => cases hb
theorem each_ty {u : Ty} {D : u.den → Prop} : ∀ {es : List (List AV)}, (∀ c ∈ es, ∃ x : u.den, c = u.cells x ∧ D x) → ∃ l : List u.den, es = l.map u.cells ∧ ∀ x ∈ l, D x
 | [], _ => ⟨[], rfl, fun x h => by cases h⟩
 | c :: es, h => by
  obtain ⟨a, rfl, ha⟩ := h c (List.mem_cons_self ..)
  obtain ⟨l, rfl, hl⟩ := each_ty (D := D) (fun c hc => h c (List.mem_cons_of_mem _ hc))
  refine ⟨a :: l, rfl, fun x hx => ?_⟩
  rcases List.mem_cons.1 hx with rfl | hx
  ·exact ha
  ·exact hl x hx
theorem shape_ty {T : Tab} : ∀ (m t : Nat) (ty : Ty) (xs : List AV), tyB T m t ty = true → ShapeC T m t xs → ∃ x : ty.den, xs = ty.cells x ∧ InD T m t ty x
 | 0, _, _, _, h, _ => by cases h
 | m + 1, t, ty, xs, h, hs => by
  have ih := shape_ty (T := T) m
  unfold ShapeC at hs
  cases ty with
  | int k =>
   simp only [tyB] at h
   split at h
   ·rename_i ht
    rw [ht] at hs
    obtain ⟨n, rfl, hn⟩ := hs
    rw [of_decide_eq_true h] at hn ⊢
    exact ⟨n, rfl, hn⟩
   ·cases h
  | byte =>
   simp only [tyB] at h
   split at h
   ·rename_i ht
    rw [ht] at hs
    obtain ⟨n, rfl, hn⟩ := hs
    rw [of_decide_eq_true h] at hn ⊢
    have hn2 : 0 ≤ n ∧ n < 256 := by
     have h3 : decide (IntKind.u8.min ≤ n) && decide (n ≤ IntKind.u8.max) := hn
     rw [Bool.and_eq_true, decide_eq_true_eq, decide_eq_true_eq] at h3
     have e1 : IntKind.u8.min = 0 := rfl
     have e2 : IntKind.u8.max = 255 := rfl
     omega
    refine ⟨UInt8.ofNat n.toNat, ?_, trivial⟩
    have : ((UInt8.toNat (UInt8.ofNat n.toNat) : Nat) : Int) = n := by
     rw [UInt8.toNat_ofNat']
     omega
    simp only [Ty.cells]
    rw [this]
   ·cases h
  | bool =>
   simp only [tyB] at h
   split at h
   ·rename_i ht
    rw [ht] at hs
    obtain ⟨n, rfl⟩ := hs
    exact ⟨n, rfl, trivial⟩
   ·cases h
  | str =>
   simp only [tyB] at h
   split at h
   ·rename_i ht
    rw [ht] at hs
    obtain ⟨n, rfl, hn⟩ := hs
    exact ⟨n, rfl, hn⟩
   ·cases h
  | slice u =>
   simp only [tyB] at h
   split at h
   ·rename_i e _ _ _ ht
    simp only [ht] at hs
    split at h
    ·rename_i i hi
     simp only [hi] at hs
     obtain ⟨es, rfl, h1, h2⟩ := hs
     rw [Bool.and_eq_true, decide_eq_true_eq] at h
     obtain ⟨l, rfl, hl⟩ := each_ty (u := u) (fun c hc => ih e u c h.2 (h2 c hc))
     refine ⟨l, by rw [h.1]; rfl, ?_⟩
     simp only [InD, ht, hi]
     exact ⟨by simpa using h1, hl⟩
    ·cases h
   ·cases h
  | one u =>
   simp only [tyB] at h
   split at h
   ·rename_i ht
    simp only [ht] at hs
    obtain ⟨x, h1, h2⟩ := shapeL_ty ih _ u xs h hs
    exact ⟨x, h1, by simp only [InD, ht]; exact h2⟩
   ·cases h
  | pair a b =>
   simp only [tyB] at h
   split at h
   ·rename_i ht
    simp only [ht] at hs
    obtain ⟨x, h1, h2⟩ := shapeL_ty ih _ (.pair a b) xs h hs
    exact ⟨x, h1, by simp only [InD, ht]; exact h2⟩
   ·cases h
  | ptr _ => cases h
  | nilS => cases h
  | nilI => cases h
  | adr => cases h
  | mp t => cases h
  | mq t => cases h
  | fnc _ => cases h
  | clo _ _ => cases h
  | ref _ => cases h
theorem shapeV_ty {T : Tab} {m t : Nat} {ty : Ty} {x : AV} (h : tyB T m t ty = true) (hs : ShapeV T m t x) : ∃ y : ty.den, x = ty.av y ∧ InD T m t ty y := by
 unfold ShapeV at hs
 cases m with
 | zero => cases h
 | succ m =>
  cases hagg : ty.isAgg with
  | true =>
   have : ∃ fs a b c, T t = some ⟨.struct fs, a, b, c⟩ := by
    cases ty with
    | one u => simp only [tyB] at h; split at h; (· rename_i ht; exact ⟨_, _, _, _, ht⟩); (· cases h)
    | pair u v => simp only [tyB] at h; split at h; (· rename_i ht; exact ⟨_, _, _, _, ht⟩); (· cases h)
    | int _ => cases hagg
    | byte => cases hagg
    | bool => cases hagg
    | str => cases hagg
    | slice _ => cases hagg
    | ptr _ => cases hagg
    | nilS => cases hagg
    | nilI => cases hagg
    | adr => cases hagg
    | mp t => cases hagg
    | mq t => cases hagg
    | fnc _ => cases hagg
    | clo _ _ => cases hagg
    | ref _ => cases hagg
   obtain ⟨fs, a, b, c, ht⟩ := this
   simp only [ht] at hs
   obtain ⟨xs, rfl, hx⟩ := hs
   obtain ⟨y, h1, h2⟩ := shape_ty _ t ty xs h hx
   exact ⟨y, by rw [Ty.av_agg hagg, h1], h2⟩
  | false =>
   have hns : ∀ fs a b c, T t ≠ some ⟨.struct fs, a, b, c⟩ := by
    intro fs a b c ht
    cases ty with
    | one u => cases hagg
    | pair u v => cases hagg
    | ptr _ => cases h
    | nilS => cases h
    | nilI => cases h
    | adr => cases h
    | mp t => cases h
    | mq t => cases h
    | fnc _ => cases h
    | clo _ _ => cases h
    | ref _ => cases h
    | int _ => simp [tyB, ht] at h
    | byte => simp [tyB, ht] at h
    | bool => simp [tyB, ht] at h
    | str => simp [tyB, ht] at h
    | slice _ => simp [tyB, ht] at h
   split at hs
   ·rename_i ht; exact absurd ht (hns _ _ _ _)
   ·obtain ⟨y, h1, h2⟩ := shape_ty _ t ty _ h hs
    rw [Ty.cells_leaf hagg] at h1
    exact ⟨y, by simpa using h1, h2⟩
def tyAB (T : Tab) (m : Nat) : List Nat → List Ty → Bool
 | [], [] => true
 | t :: ts, u :: us => tyB T m t u && tyAB T m ts us
 | _, _ => false
def InA (T : Tab) (m : Nat) : List Nat → (us : List Ty) → denL us → Prop
 | [t], [u], x => InD T m t u x
 | t :: ts, u :: v :: us, x => InD T m t u x.1 ∧ InA T m ts (v :: us) x.2
 | _, _, _ => True
theorem shapeA_ty {T : Tab} {m : Nat} : ∀ (ts : List Nat) (us : List Ty) (xs : List AV), tyAB T m ts us = true → ShapeA T m ts xs → ∃ x : denL us, xs = avL us x ∧ InA T m ts us x := by
 intro ts
 induction ts with
 | nil =>
  intro us xs h hs
  cases us with
  | nil => exact ⟨(), hs, trivial⟩
  | cons u us => cases h
 | cons t ts ih =>
  intro us xs h hs
  obtain ⟨x, r, rfl, h1, h2⟩ := hs
  cases us with
  | nil => cases h
  | cons u us =>
   simp only [tyAB, Bool.and_eq_true] at h
   obtain ⟨y, rfl, hy⟩ := shapeV_ty h.1 h1
   obtain ⟨z, hz, hz2⟩ := ih us r h.2 h2
   cases us with
   | nil =>
    cases ts with
    | nil => exact ⟨y, by rw [hz]; rfl, hy⟩
    | cons _ _ => cases h.2
   | cons v us =>
    refine ⟨(y, z), by rw [hz]; rfl, ?_⟩
    cases ts with
    | nil => cases h.2
    | cons _ _ => exact ⟨hy, hz2⟩
theorem law_typed {P : Program} {T : Tab} {f m : Nat} {ts : List Nat} {us : List Ty} {run : denL us → Option Bool} (ok : FnOK P f ⟨us, [.bool], run⟩) (hty : tyAB T m ts us = true) (law : ∀ x, InA T m ts us x → run x = some true) (xs : List AV) (h : ShapeA T m ts xs) : FPure P f xs (.v (.bool true)) := by
 obtain ⟨x, rfl, hx⟩ := shapeA_ty ts us xs hty h
 exact ok.2 x true (law x hx)
end Go.Proofs.YtahlodpolggeiaaGreatDoor.Eng
set_option linter.unusedVariables false
set_option linter.unusedSimpArgs false
namespace Go.Proofs.YtahlodpolggeiaaGreatDoor.Eng
open Go Go.RowKit
theorem FPure.of_callsR {P : Program} {f : Nat} {args : List Value} {r : Value} {R : AV} (hR : ∀ σ F w, RepV σ F w R r) (h : ∀ w : World, (∀ p ∈ LAID, ∃ e q, w.heap[p.1]? = some (.cells p.2 e q)) → Calls P f args.toArray w fun e w' => e = .returned r ∧ Below w.heap.size w w') : FPure P f (args.map AV.v) R := by
 intro σ F w vs hr hl hv
 have hvs : vs = args := by
  apply List.ext_getElem?
  intro j
  by_cases hj : j < args.length
  ·have hj2 : j < vs.length := by rw [← hl, List.length_map]; exact hj
   rw [List.getElem?_eq_getElem hj2, List.getElem?_eq_getElem hj]
   exact congrArg some (RepV.val (hv j (.v args[j]) vs[j] (by rw [List.getElem?_map, List.getElem?_eq_getElem hj]; rfl) (List.getElem?_eq_getElem hj2)))
  ·have hj2 : ¬ j < vs.length := by rw [← hl, List.length_map]; exact hj
   rw [List.getElem?_eq_none (by omega), List.getElem?_eq_none (by omega)]
 subst hvs
 have hno : ∀ id g, ¬ hasB σ id g := fun id g h => by
  obtain ⟨k, h, _⟩ := h
  rw [hr.out id (Nat.zero_le _)] at h; cases h
 refine (h w fun p hp => (hr.lay p hp).2).mono ?_
 rintro e w' ⟨rfl, hb⟩
 refine ⟨R, [], σ, F, r, ⟨rfl, rfl⟩, rfl, hR _ _ _, ⟨fun id o ho => by simp at ho, hr.out, hr.inj, fun id g h => absurd h (hno id g), fun b hb' => Nat.lt_of_lt_of_le (hr.flt b hb') hb.size, hr.lay.mono (fun _ h => h) (fun b hb' => hb.block b (hr.flt b hb'))⟩, ⟨hb.os, hb.tape, hb.output, hb.size, fun b hb' _ => hb.block b hb'⟩, fun id g h => absurd h (hno id g), fun b h => .inl h, fun id h => absurd h (Nat.not_lt_zero _), Nat.le_refl _⟩
theorem FPure.of_callsL {P : Program} {f : Nat} {args : List Value} {r : Value} (h : ∀ w : World, (∀ p ∈ LAID, ∃ e q, w.heap[p.1]? = some (.cells p.2 e q)) → Calls P f args.toArray w fun e w' => e = .returned r ∧ Below w.heap.size w w') : FPure P f (args.map AV.v) (.v r) :=
 FPure.of_callsR (fun _ _ _ => .f _ _ (.v _)) h
theorem FPure.of_calls {P : Program} {f : Nat} {args : List Value} {r : Value} (h : ∀ w : World, Calls P f args.toArray w fun e w' => e = .returned r ∧ Below w.heap.size w w') : FPure P f (args.map AV.v) (.v r) :=
 FPure.of_callsL fun w _ => h w
theorem FPure.of_callsS {P : Program} {f : Nat} {args : List Value} {r : Value} (h : ∀ w : World, Calls P f args.toArray w fun e w' => e = .returned r ∧ w' = w) : FPure P f (args.map AV.v) (.v r) :=
 FPure.of_calls fun w => (h w).mono fun e w' ⟨h1, h2⟩ => ⟨h1, h2 ▸ Below.refl _ _⟩
end Go.Proofs.YtahlodpolggeiaaGreatDoor.Eng
set_option linter.unusedVariables false
set_option linter.unusedSimpArgs false
namespace Go.Proofs.YtahlodpolggeiaaGreatDoor.Eng
open Go Go.RowKit
end Go.Proofs.YtahlodpolggeiaaGreatDoor.Eng
end
