/-
  Part of a proof; nothing here is trusted.
-/
import Derived.Test.YtcphmeggalaplaaDoorTypB
import Derived.OrdersIn
import Derived.RangeFuncRecord
import Derived.RangeFuncSeq
import Derived.ControlIn
import Derived.TacticsIn
import Derived.Test.YtcphmeggalaplaaDoorEngB
set_option linter.unusedVariables false
set_option linter.unusedSimpArgs false
namespace Go.Proofs.YtcphmeggalaplaaDoor.Eng
open Go Go.RowKit
theorem Z58 {α : Type} : ∀ (l : List α) (L i : Nat), L + 1 < l.length → (Z8j l L)[i]? = l[swpN L i]?
 | a :: b :: r, 0, i, _ => by
  match i with
  | 0 => rfl
  | 1 => rfl
  | i + 2 =>
   have : swpN 0 (i + 2) = i + 2 := by simp [swpN]
   rw [this]; rfl
 | [a], 0, _, h => by simp at h
 | [], _, _, h => by simp at h
 | a :: r, L + 1, i, h => by
  have h1 : L + 1 < r.length := by simpa using h
  have e : Z8j (a :: r) (L + 1) = a :: Z8j r L := by cases r <;> rfl
  rw [e]
  match i with
  | 0 => simp [swpN]
  | i + 1 =>
   have e2 : swpN (L + 1) (i + 1) = swpN L i + 1 := by
    unfold swpN
    by_cases h2 : i = L
    ·simp [h2]
    ·by_cases h3 : i = L + 1
     ·simp [h3]
     ·simp [h2, h3]
   rw [e2, List.getElem?_cons_succ, List.getElem?_cons_succ]
   exact Z58 r L i h1
theorem Z7h {α : Type} : ∀ (l : List α) (L : Nat), (Z8j l L).length = l.length
 | a :: b :: r, 0 => rfl
 | [a], 0 => rfl
 | [], 0 => rfl
 | [], _ + 1 => rfl
 | a :: r, L + 1 => by
  have e : Z8j (a :: r) (L + 1) = a :: Z8j r L := by cases r <;> rfl
  rw [e, List.length_cons, List.length_cons, Z7h r L]
theorem Z57 (L i : Nat) : swpN L (swpN L i) = i := by
 unfold swpN
 by_cases h2 : i = L
 ·simp [h2]
 ·by_cases h3 : i = L + 1
  ·simp [h3]
  ·simp [h2, h3]
theorem Zia {L i j : Nat} (h : swpN L i = swpN L j) : i = j := by rw [← Z57 L i, h, Z57]
theorem swpN_ge {L i n : Nat} (hL : L + 1 < n) (h : n ≤ i) : swpN L i = i := by
 unfold swpN
 simp [show i ≠ L by omega, show i ≠ L + 1 by omega]
theorem swpN_lt {L i : Nat} (h : i < L) : swpN L i = i := by
 unfold swpN
 simp [show i ≠ L by omega, show i ≠ L + 1 by omega]
def swpA (L : Nat) : AV → AV
 | .own i sz off len => .own (swpN L i) sz off len
 | .ptr i k sz j => .ptr (swpN L i) k sz j
 | .nm i k => .nm (swpN L i) k
 | x => x
section
variable {P : Program} {C : Cx} {X : Ctx} {σ : Nat → Option Blk} {F : Nat → Prop} {a : Act} {w : World} {β : Type}
theorem Rep.swap {s : St} {L : Nat} (hm : X.m ≤ L) (hL : L + 1 < s.heap.length) (hr : Rep X s a w) : Rep X ⟨Zt (swpA L) s.env, Z8j (s.heap.map (AObj.sub (swpA L))) L⟩ a w := by
 obtain ⟨σ, F, hr⟩ := hr
 have hσ : ∀ i, (fun i => σ (swpN L i)) (swpN L i) = σ i := fun i => by simp only [Z57]
 have hV : ∀ x y, RepV σ F w x y → RepV (fun i => σ (swpN L i)) F w (x.sub (swpA L)) y := by
  intro x y h
  refine h.sub (fun _ _ h => h) (fun id sz off len y h => ?_) (fun id i sz j y h => ?_) (fun id q y h => ?_)
  ·simp only [swpA]
   cases h with
   | f _ _ h => cases h
   | own0 _ _ h => exact .own0 _ _ ((hσ _).trans h)
   | own _ _ _ _ g b c n h hn hc => exact .own _ _ _ _ g b c n ((hσ _).trans h) hn hc
   | ownz _ _ _ g b c n a h hn hc => exact .ownz _ _ _ g b c n a ((hσ _).trans h) hn hc
  ·simp only [swpA]
   cases h with
   | f _ _ h => cases h
   | ptr _ _ _ _ g b c n h => exact .ptr _ _ _ _ g b c n ((hσ _).trans h)
  ·simp only [swpA]
   cases h with
   | f _ _ h => cases h
   | nm _ _ gs V h h1 => exact .nm _ _ gs V ((hσ _).trans h) h1
 have hlen : (Z8j (s.heap.map (AObj.sub (swpA L))) L).length = s.heap.length := by rw [Z7h, List.length_map]
 refine ⟨fun i => σ (swpN L i), F, hr.defers, hr.size, fun i => by rw [Zw]; exact hV _ _ (hr.env i), ⟨fun id ob ho => ?_, fun id hid => ?_, fun id id' g h1 h2 => Zia (hr.heap.inj _ _ _ h1 h2), fun id g h => hr.heap.lt _ _ h, hr.heap.flt, hr.heap.lay⟩, hr.keep, fun id g h => hr.own _ _ h, hr.fnew, fun id hid => by simp only [swpN_lt (show id < L by omega)]; exact hr.stab id hid, by rw [hlen]; exact hr.hm⟩
 ·rw [Z58 _ _ _ (by rw [List.length_map]; exact hL), List.getElem?_map, Option.map_eq_some_iff] at ho
  obtain ⟨q, hq, rfl⟩ := ho
  exact (hr.heap.obj _ _ hq).ren rfl (fun _ _ h => h) (fun _ h => ⟨h, rfl⟩) (fun _ _ => rfl) hV
 ·rw [hlen] at hid
  simp only [swpN_ge hL hid]
  exact hr.heap.out _ hid
theorem Ze1 {s : TSt} {L : Nat} (hm : X.m ≤ L) (hL : L + 1 < s.heap.length) : Imp X s.toSt (s.swap L).toSt := by
 intro a w hr
 have h1 := Rep.swap hm (L := L) (by simpa [TSt.toSt] using hL) hr
 have hrow : ∀ i, rowLen (s.swap L).heap (swpN L i) = rowLen s.heap i := fun i => by
  unfold rowLen
  rw [Z7, Z7]
  simp only [TSt.swap]
  rw [Z58 _ _ _ (by rw [List.length_map]; exact hL), Z57, List.getElem?_map]
  cases s.heap[i]? with
  | none => rfl
  | some q => cases q <;> rfl
 have ok : SubOK (swpA L) (swpS L) s.heap (s.swap L).heap := by
  refine ⟨fun i sz => ?_, fun i sz off len => .refl _, fun i k sz j => .refl _, fun i k => .refl _⟩
  simp only [swpA, swpS, SV.toAV]
  rw [hrow]; exact .refl _
 refine h1.weak ⟨fun i => ?_, ?_, fun i o o' ho ho' => ?_⟩
 ·simp only [Zw, TSt.toSt, Zn, TSt.swap]
  rw [Z29 (SV.sub (swpS L)) rfl]
  exact Z8u ok _
 ·simp [TSt.toSt, TSt.swap, Z7h]
 ·simp only [TSt.toSt] at ho ho'
  rw [Z58 _ _ _ (by simpa using hL), List.getElem?_map, List.getElem?_map] at ho
  simp only [List.getElem?_map] at ho'
  have e : (s.swap L).heap[i]? = (s.heap[swpN L i]?).map (TObj.sub (swpS L)) := by
   simp only [TSt.swap]
   rw [Z58 _ _ _ (by rw [List.length_map]; exact hL), List.getElem?_map]
  rw [e] at ho'
  cases hq : s.heap[swpN L i]? with
  | none => rw [hq] at ho; cases ho
  | some q =>
   rw [hq] at ho ho'
   simp only [Option.map_some] at ho ho'
   cases ho; cases ho'
   cases q with
   | box e cs => exact ⟨rfl, Z3y ok cs⟩
   | row e t xs => exact ObjLe.refl _
   | mapo t es => exact ObjLe.refl _
   | iter t es => exact ObjLe.refl _
   | tree e ei t pend es => exact ObjLe.refl _
   | dead => trivial
theorem Zfu (W : List Nat) (s : TSt) (L : Nat) : WFr W s (s.swap L) := by
 intro i _
 simp only [TSt.swap]
 rw [Z29 (SV.sub (swpS L)) rfl]
 exact ⟨fun h => by rw [h]; rfl, fun t x h => .inr (by rw [h]; rfl), fun t x h => .inr (by rw [h]; rfl), fun g h => .inr (by rw [h]; rfl)⟩
theorem Ze3 (hC : CxOK P C) {o : Oper} {W : List Nat} (hd : ∀ d, o.dst = some d → d ∈ W) (hdst : dB C.n o.dst = true → dOK X.n o.dst) {s : TSt} {K : TSt → Option β} {r : β} (h : Z2o C false o K s = some r) : opWPG P X o (lk X K r W s) s.toSt := by
 unfold Z2o at h
 split at h
 ·rename_i e; cases e
 ·rename_i hb _
  have hd' := hdst hb
  split at h
  ·rename_i fop args ts ho'; exact Z2z hd (Zdv hC hd' ho') h
  ·rename_i e ho'; exact Z2z hd (Zat hC.T hd' ho') h
  ·rename_i e y ho'; exact Z2z hd (Zhm hC.T hd' ho') h
  ·rename_i t parts ho'; exact Z2z hd (Zam hC.T hd' ho') h
  ·rename_i t len parts ho'; exact Z2z hd (Z3r hC.T hd' ho') h
  ·rename_i t y z ho'; exact Z2z hd (Z42 hC.T hd' ho') h
  ·rename_i t ho'; exact Z2z hd (Z68 hC hd' ho') h
  ·rename_i t x k b ho'; exact Z2z hd (Z7v hC hd' ho') h
  ·rename_i t t' x ho'
   split at h
   ·rename_i y hy; exact Z2z hd (Z47 hC.T hd' ho' hy) h
   ·cases h
  ·cases h
 ·cases h
theorem Z7e {ops : Array Oper} {n : Nat} : ∀ (π : List (Nat × Bool)) (listed : Array Bool), Z7f ops n π listed = true → ∃ l', Z51 ops n π listed = some l' ∧ Z7f ops n [] l' = true
 | [], listed, h => ⟨listed, rfl, h⟩
 | (i, true) :: π, listed, h => by
  simp only [Z7f, Bool.and_eq_true] at h
  obtain ⟨l', h1, h2⟩ := Z7e π _ h.2
  refine ⟨l', ?_, h2⟩
  simp only [Z51]
  rw [show (decide (i < n) && (Region.ready .any ops listed).contains i && Region.free .any ops listed i) = true by simp only [Bool.and_eq_true]; exact h.1]
  exact h1
 | (i, false) :: π, listed, h => by
  simp only [Z7f, Bool.and_eq_true] at h
  obtain ⟨l', h1, h2⟩ := Z7e π _ h.2
  refine ⟨l', ?_, h2⟩
  simp only [Z51]
  rw [show (decide (i < n) && decide (Region.ready .any ops listed = [i])) = true by simp only [Bool.and_eq_true]; exact h.1]
  exact h1
theorem Zha (hC : CxOK P C) (hn : X.n = C.n) (hm : X.m = C.m) {l : List Oper} {d : Nat × List (Nat × Bool) × Option (Nat × List (Nat × Bool) × Nat × List (Nat × Bool))} {K : TSt → Option β} {s : TSt} {r : β} (hB : regB l.toArray d = true) (h : Zjs C l d K s = some r) :
  ∃ π, π.length = d.1 ∧ d.1 ≤ l.toArray.size ∧ Region.noSelect l.toArray = true ∧ Z82 .any l.toArray d.1 = true ∧ DrawJ P X l.toArray d.1 π (Array.replicate l.toArray.size false) (lk X K r (Zq l) s) s.toSt := by
 obtain ⟨n, π, t⟩ := d
 have tailOk : ∀ {listed : Array Bool} {s' : TSt}, Z7f l.toArray n [] listed = true → Z3b C l (Z86 l n) K s' = some r → WFr (Zq l) s s' → DrawJ P X l.toArray n [] listed (lk X K r (Zq l) s) s'.toSt := by
  intro listed s' hw hx hf
  refine DrawJ.nil hw ?_
  rw [Zai] at hx
  have h1 := Z5j hC hn hm l (l.drop n) K s' r (fun o ho => List.mem_of_mem_drop ho) hx
  intro Qc a w hK hr
  have h2 := h1 Qc a w (fun s2 a' w' ⟨s3, h3, h4, h5⟩ hr' => hK s2 a' w' ⟨s3, h3, h4, hf.trans h5 (fun _ h => h) (fun _ h => h)⟩ hr') hr
  simpa using h2
 cases t with
 | none =>
  simp only [regB, drawB, Bool.and_eq_true, decide_eq_true_eq] at hB
  obtain ⟨⟨⟨⟨hsel, hhd⟩, hl⟩, hn'⟩, hw⟩ := hB
  obtain ⟨l', hw1, hw2⟩ := Z7e _ _ hw
  refine ⟨π, hl, hn', hsel, hhd, ?_⟩
  have h1 := Z3c (r := r) (rest := []) (K' := lk X K r (Zq l) s) (s0 := s) hC hn hm hsel hhd π _ s hw1 h (.refl _ _) (fun s' hs' hf => tailOk hw2 hs' hf)
  rwa [List.append_nil] at h1
 | some t =>
  obtain ⟨i, π1, j, π2⟩ := t
  simp only [regB, Zjt, Bool.and_eq_true, decide_eq_true_eq] at hB
  obtain ⟨⟨⟨⟨⟨⟨⟨hsel, hhd⟩, hl⟩, hl2⟩, hn'⟩, hi⟩, hj⟩, hw⟩ := hB
  split at hw
  ·rename_i l' hw1
   simp only [Bool.and_eq_true, decide_eq_true_eq] at hw
   obtain ⟨⟨hr, hwi⟩, hwj⟩ := hw
   obtain ⟨li, hi1, hi2⟩ := Z7e _ _ hwi
   obtain ⟨lj, hj1, hj2⟩ := Z7e _ _ hwj
   refine ⟨π ++ (i, false) :: π1, by simp; omega, hn', hsel, hhd, ?_⟩
   refine Z3c (r := r) (K' := lk X K r (Zq l) s) (s0 := s) hC hn hm hsel hhd π _ s hw1 h (.refl _ _) (fun s' hs' hf => ?_)
   simp only [Zjr, nthOp_eq] at hs'
   split at hs'
   ·rename_i oi oj hoi hoj
    split at hs'
    ·rename_i hgi hgj
     obtain ⟨h1, h2⟩ := Zcn hs'
     have hoi' : l.toArray[i]? = some oi := by rw [List.getElem?_toArray]; exact hoi
     have hoj' : l.toArray[j]? = some oj := by rw [List.getElem?_toArray]; exact hoj
     have mi : oi ∈ l := List.mem_of_getElem? hoi
     have mj : oj ∈ l := List.mem_of_getElem? hoj
     refine DrawJ.two (rest' := π2) hoi' hoj' hi hj hr hgi hgj hl2 ?_ ?_
     ·refine (Ze3 hC (fun d hd => Z1h mi hd) (fun hb => hn ▸ Z27 hb) h1).mono ?_
      rintro s2 ⟨s3, h3, h4, h5⟩
      have h6 := Z3c (r := r) (rest := []) (K' := lk X K r (Zq l) s) (s0 := s) hC hn hm hsel hhd π1 _ s3 hi1 h4 (hf.trans h5 (fun _ h => h) (fun _ h => h)) (fun s' hs' hf => tailOk hi2 hs' hf)
      rw [List.append_nil] at h6
      exact DrawJ.from h3 h6
     ·refine (Ze3 hC (fun d hd => Z1h mj hd) (fun hb => hn ▸ Z27 hb) h2).mono ?_
      rintro s2 ⟨s3, h3, h4, h5⟩
      have h6 := Z3c (r := r) (rest := []) (K' := lk X K r (Zq l) s) (s0 := s) hC hn hm hsel hhd π2 _ s3 hj1 h4 (hf.trans h5 (fun _ h => h) (fun _ h => h)) (fun s' hs' hf => by
       unfold Zib at hs'
       split at hs'
       ·rename_i hle
        rw [Bool.and_eq_true] at hle
        exact DrawJ.from (Ze1 (by rw [hm]; exact Nat.le_of_ble_eq_true hle.2) (Nat.le_of_ble_eq_true hle.1)) (tailOk hj2 hs' (hf.trans (Zfu _ _ _) (fun _ h => h) (fun _ h => h)))
       ·exact tailOk hj2 hs' hf)
      rw [List.append_nil] at h6
      exact DrawJ.from h3 h6
    ·cases hs'
   ·cases hs'
  ·cases hw
theorem oper_in {P : Program} {ro : Option Nat} {Q : Exit → Act → World → Prop} {K K' : Act → World → Prop} {o : Oper} (hd : ∀ c, o.op ≠ .defer c) (hk : ∀ a w, K a w → K' a w) {a : Act} {w : World} (h : o.wp P a w K Q) : o.wpIn (fnc ro) 0 P a w K' Q := by
 refine ⟨fun _ _ => trivial, ?_⟩
 rw [Oper.semAt_eq _ _ _ hd]
 unfold Oper.wp at h
 revert h
 cases (execOp a.eval o).run P w with
 | ok n w' =>
  cases n with
  | value v => exact fun h => hk _ _ h
  | skip => exact fun h => hk _ _ h
  | defer d => exact fun h => hk _ _ h
  | enter f args =>
   intro h
   refine ⟨fun e => (nomatch e), ?_⟩
   have h1 := (callsIn_wide (n := 0)).2 h
   exact CallsIn.mono (F := fnc ro) (n := 0) h1 fun e w'' he => by
    cases e with
    | returned v => exact hk _ _ he
    | panicked c => exact he
    | outgrown => exact he
  | row rw args =>
   intro h
   exact ⟨fun e => (nomatch e), fun c cs _ => let ⟨v, w', r, s⟩ := h c cs; ⟨v, w', hk _ _ r, stepsIn_wide.2 s⟩⟩
  | _ => exact fun h => h.elim
 | halt h' w' => cases h' <;> exact fun h => h
theorem Zgi {l : List Oper} (h : noDef l = true) : ∀ o ∈ l, ∀ c, o.op ≠ .defer c := by
 induction l with
 | nil => intro o ho; cases ho
 | cons x r ih =>
  rw [noDef, Bool.and_eq_true] at h
  intro o ho
  rcases List.mem_cons.1 ho with e | ho
  ·subst e; exact Ze7 h.1
  ·exact ih h.2 o ho
theorem Zcv {P : Program} {ro : Option Nat} {l : List Oper} {md : Region.Mode} {Q : Exit → Act → World → Prop} (hQ : ¬ LetsOut Q) (hd : noDef l = true) : ∀ (fuel : Nat) (listed : Array Bool) (a : Act) (w : World), wpAny P md l.toArray Q fuel listed a w → wpAnyIn (fnc ro) 0 P md l.toArray Q fuel listed a w
 | 0, listed, a, w, h => h
 | fuel + 1, listed, a, w, h => by
  refine ⟨h.1, fun i hi => ?_⟩
  have h2 := h.2 i hi
  unfold wpOp at h2
  unfold wpOpIn
  split at h2
  ·rename_i e
   simp only [e]
   exact Zcv hQ hd fuel _ a w h2
  ·rename_i o e
   simp only [e]
   have hm : o ∈ l := by
    have : l[i]? = some o := by simpa using e
    exact List.mem_of_getElem? this
   split at h2
   ·rename_i hw
    rw [if_pos hw]
    rcases h2 with h2 | h2
    ·exact oper_in (Zgi hd o hm) (fun a w => Zcv hQ hd fuel _ a w) h2
    ·exact absurd h2.2 hQ
   ·rename_i hw
    rw [if_neg hw]
    exact ⟨fun _ _ => trivial, Zcv hQ hd fuel _ _ w h2⟩
theorem WP.draw2 {id : Nat} {Q : Exit → St → Prop} {l : List Oper} {n : Nat} {π : List (Nat × Bool)} {s : St} (hm : P.follows .mixedOrders = true) (hl : π.length = n) (hn : n ≤ l.toArray.size)
  (hQ : ∀ c s, ¬ Q (.panic c) s) (hro : X.ro = none ∨ noDef l = true)
  (h : DrawJ P X l.toArray n π (Array.replicate l.toArray.size false) (Q .normal) s) : WP P X (.region id l.toArray true) Q s := by
 intro a w hr
 rcases hro with hro | hd
 ·rw [WP.wide hro]
  refine wp_region_any hm ?_
  have inv0 : HeadInv .any l.toArray n (Array.replicate l.toArray.size false) :=
   ⟨by simp, fun j oj _ hl => (by rw [getD_replicate_false] at hl; cases hl), fun t _ ht => getD_in (by simpa using ht) (getD_replicate_false _ _)⟩
  have H := h (fun e a w => ∃ s, Q e s ∧ Rep X s a w) a { w with drawn := w.drawn + 1 } (fun c a b w ⟨s, h1, _⟩ => absurd h1 (hQ c s)) (fun s' a' w' h1 h2 => ⟨s', h1, h2⟩) hr.drawn inv0
  have hsz : l.toArray.size = π.length + (l.toArray.size - n) := by omega
  have H2 := Z5u (g := l.toArray.size - n) (fun listed a' w' hL => by
   have := wpAny_of_seq (md := .any) (Q' := fun e a w => ∃ s, Q e s ∧ Rep X s a w) (l.toArray.toList.drop n) n listed a' w' (fun j => by simp [List.getElem?_drop]) (by simpa using hL.1) hL.2
   simpa using this) _ _ _ _ H
  rwa [← hsz] at H2
 ·skip
  have inv0 : HeadInv .any l.toArray n (Array.replicate l.toArray.size false) :=
   ⟨by simp, fun j oj _ hl => (by rw [getD_replicate_false] at hl; cases hl), fun t _ ht => getD_in (by simpa using ht) (getD_replicate_false _ _)⟩
  have H := h (fun e a w => e = .normal ∧ ∃ s, Q .normal s ∧ Rep X s a w) a { w with drawn := w.drawn + 1 } (fun c a b w h => nomatch h.1) (fun s' a' w' h1 h2 => ⟨rfl, s', h1, h2⟩) hr.drawn inv0
  have hsz : l.toArray.size = π.length + (l.toArray.size - n) := by omega
  have H2 := Z5u (g := l.toArray.size - n) (fun listed a' w' hL => by
   have := wpAny_of_seq (md := .any) (Q' := fun e a w => e = .normal ∧ ∃ s, Q .normal s ∧ Rep X s a w) (l.toArray.toList.drop n) n listed a' w' (fun j => by simp [List.getElem?_drop]) (by simpa using hL.1) hL.2
   simpa using this) _ _ _ _ H
  rw [← hsz] at H2
  exact wpIn_mono (wpIn_region_any hm (Zcv (ro := X.ro) (fun ⟨a, w, h⟩ => by cases h.1) hd _ _ _ _ H2)) (fun e a w ⟨he, s', h2, h3⟩ => by subst he; exact ⟨s', h2, h3⟩)
end
end Go.Proofs.YtcphmeggalaplaaDoor.Eng
set_option linter.unusedVariables false
set_option linter.unusedSimpArgs false
namespace Go.Proofs.YtcphmeggalaplaaDoor.Eng
open Go Go.RowKit
section
variable {P : Program} {C : Cx} {X : Ctx} {β : Type} {ops : Array Oper} {n : Nat} {listed : Array Bool} {K : St → Prop} {s : St}
def DrawT (P : Program) (X : Ctx) (ops : Array Oper) (n f : Nat) (listed : Array Bool) (K : St → Prop) (s : St) : Prop :=
 ∀ (Qc : Exit → Act → World → Prop) a w, (∀ c a b w, Qc (.panic c) a w → Qc (.panic c) b w) → (∀ s' a' w', K s' → Rep X s' a' w' → Qc .normal a' w') → Rep X s a w → HeadInv .any ops n listed →
  anyT P .any ops Qc n (fun listed a w => Region.seqB .any ops (ops.size - n) n listed = true ∧ wpList P ops Qc (ops.toList.drop n) a w) f listed a w (fun _ => True)
theorem DrawT.nil (hw : Region.seqB .any ops (ops.size - n) n listed = true) (h : WPO P X ops (ops.toList.drop n) K s) : DrawT P X ops n 0 listed K s := by
 intro Qc a w hQ hK hr inv
 exact ⟨hw, h Qc a w hK hr⟩
theorem DrawT.from {s' : St} {f : Nat} (h : ∀ a w, Rep X s a w → Rep X s' a w) (k : DrawT P X ops n f listed K s') : DrawT P X ops n f listed K s :=
 fun Qc a w hQ hK hr inv => k Qc a w hQ hK (h a w hr) inv
theorem DrawT.take {i f : Nat} {o : Oper} (hi : ops[i]? = some o) (hs : Region.noSelect ops = true) (hh : Z82 .any ops n = true) (hin : i < n) (hr : (Region.ready .any ops listed).contains i = true) (hf : Region.free .any ops listed i = true)
  {x : AV} (hd : dOK X.n o.dst) (hy : ∀ σ F a w, RepAt X σ F s a w → ∃ v, YieldsIf P ops (fun _ => True) o v a ∧ RepV σ F w x v) (h : DrawT P X ops n f (listed.setIfInBounds i true) K (s.put o.dst x)) : DrawT P X ops n (f + 1) listed K s := by
 intro Qc a w hQ hK hrep inv
 obtain ⟨σ, F, hat⟩ := hrep
 obtain ⟨v, hv, hx⟩ := hy σ F a w hat
 have hr' : i ∈ Region.ready .any ops listed := by simpa using hr
 exact Z9a hi (Region.noSelect_spec hs) hh hin (fun _ _ _ h => Zbi h) (fun c a w h => hQ c _ _ w h) f listed a w inv (Region.free_spec hi hf) hr' hv trivial
  (h Qc _ w hQ hK ⟨σ, F, hat.put hd hx⟩ (inv.set hr' hin))
def Branch (P : Program) (X : Ctx) (ops : Array Oper) (n f : Nat) (listed : Array Bool) (K : St → Prop) (s : St) (i : Nat) : Prop :=
 i < n ∧ ∃ o, ops[i]? = some o ∧ ∀ (Qc : Exit → Act → World → Prop) (next : Act → World → Prop) a w, (∀ s' a' w', DrawT P X ops n f (listed.setIfInBounds i true) K s' → Rep X s' a' w' → next a' w') → Rep X s a w →
  if Region.wanted o (yielded ops a.tmps) then o.wp P a w next Qc else next (a.put o.dst undef) w
theorem DrawT.all {f : Nat} (hne : Region.ready .any ops listed ≠ []) (h : ∀ i ∈ Region.ready .any ops listed, Branch P X ops n f listed K s i) : DrawT P X ops n (f + 1) listed K s := by
 intro Qc a w hQ hK hrep inv
 refine ⟨hne, fun j hj => ?_⟩
 obtain ⟨hjn, o, ho, hb⟩ := h j hj
 refine ⟨hjn, ?_⟩
 have h1 := hb Qc (fun a' w' => True ∧ anyT P .any ops Qc n (fun listed a w => Region.seqB .any ops (ops.size - n) n listed = true ∧ wpList P ops Qc (ops.toList.drop n) a w) f (listed.setIfInBounds j true) a' w' (fun _ => True)) a w
  (fun s' a' w' hd hr' => ⟨trivial, hd Qc a' w' hQ hK hr' (inv.set hj hjn)⟩) hrep
 unfold wpOp
 simp only [ho]
 split
 ·rename_i hw; rw [if_pos hw] at h1; exact .inl h1
 ·rename_i hw; rw [if_neg hw] at h1; exact h1
theorem Branch.from {s' : St} {f i : Nat} (h : ∀ a w, Rep X s a w → Rep X s' a w) (k : Branch P X ops n f listed K s' i) : Branch P X ops n f listed K s i := by
 obtain ⟨h1, o, h2, h3⟩ := k
 exact ⟨h1, o, h2, fun Qc next a w hn hr => h3 Qc next a w hn (h a w hr)⟩
end
section
variable {P : Program} {C : Cx} {X : Ctx} {β : Type}
theorem Zes (hC : CxOK P C) (hn : X.n = C.n) {l : List Oper} {o : Oper} {s' : TSt} {K : TSt → Option β} {r : β} (hst : Zbc C.T o.op = true) (hx : Z2o C true o K s' = some r) :
  dOK X.n o.dst ∧ ((∃ (x : SV) (v : AV), (∀ σ F a w, RepAt X σ F s'.toSt a w → ∃ u, (∀ w', (execOp a.eval o).run P w' = .ok (.value u) w') ∧ RepV σ F w v u) ∧ AV.le v (x.toAV s'.heap) ∧ K (s'.put o.dst x) = some r)) := by
 unfold Z2o at hx
 split at hx
 ·rename_i hd _
  refine ⟨hn ▸ Z27 hd, ?_⟩
  split at hx
  ·rename_i cnd p q ho'
   split at hx
   ·rename_i b hb
    obtain ⟨h1, h2⟩ := Z6m hx
    cases b with
    | true =>
     refine ⟨s'.ev p, s'.toSt.ev p, fun σ F a w hat => ?_, by rw [TSt.ev_ok]; exact .refl _, h1 rfl⟩
     have hv : a.eval cnd = .bool true := RepV.val ((show s'.toSt.ev cnd = AV.v (.bool true) by rw [TSt.ev_ok, Z3f hb]) ▸ hat.ev cnd)
     exact ⟨a.eval p, fun w' => by simp [execOp, ho', hv, asBool], hat.ev p⟩
    | false =>
     refine ⟨s'.ev q, s'.toSt.ev q, fun σ F a w hat => ?_, by rw [TSt.ev_ok]; exact .refl _, h2 rfl⟩
     have hv : a.eval cnd = .bool false := RepV.val ((show s'.toSt.ev cnd = AV.v (.bool false) by rw [TSt.ev_ok, Z3f hb]) ▸ hat.ev cnd)
     exact ⟨a.eval q, fun w' => by simp [execOp, ho', hv, asBool], hat.ev q⟩
   ·cases hx
  ·rename_i t parts ho'
   split at hx
   ·rename_i s1 x hb
    exact ⟨x, x.toAV s'.heap, Zcj (X := X) hC.T ho' hb, .refl _, hx⟩
   ·cases hx
  ·have ht := Z6j (T := C.T) (s := s') (op := o.op)
   have fin : ∀ {x : SV} {c' : Prop} {x' : AV}, Zi C.T s'.toSt o.op = some (c', x') → c' → AV.le x' (x.toAV s'.heap) → K (s'.put o.dst x) = some r → _ := fun {x c' x'} he hc hle hk =>
    (⟨x, x', fun σ F a w hat => by
     obtain ⟨u, h1, h2⟩ := Zce (R := fun _ _ => True) (.inr hst) hC.T hat he hc
     exact ⟨u, fun w' => h1 w' trivial, h2⟩, hle, hk⟩ : ∃ (x : SV) (v : AV), (∀ σ F a w, RepAt X σ F s'.toSt a w → ∃ u, (∀ w', (execOp a.eval o).run P w' = .ok (.value u) w') ∧ RepV σ F w v u) ∧ AV.le v (x.toAV s'.heap) ∧ K (s'.put o.dst x) = some r)
   cases hq : exT1 C.T s' o.op with
   | bad => rw [hq] at hx; cases hx
   | ok x =>
    rw [hq] at hx ht
    obtain ⟨c', x', he, hc, hle⟩ := ht
    exact fin he hc hle hx
   | cond c x =>
    rw [hq] at hx ht
    obtain ⟨hc, hx⟩ := Z1f hx
    obtain ⟨c', x', he, hc, hle⟩ := ht hc
    exact fin he hc hle hx
 ·rename_i hf; cases hf
 ·cases hx
theorem Zdq (hC : CxOK P C) (hn : X.n = C.n) (hm : X.m = C.m) {l : List Oper} {n : Nat} (hs : Region.noSelect l.toArray = true) (hh : Z82 .any l.toArray n = true) {tail : TSt → Option β} {r : β} {s0 : TSt} {K' : St → Prop}
  (hk : ∀ s' listed, tail s' = some r → WFr (Zq l) s0 s' → Region.seqB .any l.toArray (l.toArray.size - n) n listed = true → DrawT P X l.toArray n 0 listed K' s'.toSt) :
  ∀ (pl : Plan) (m : Bool) (f : Nat) (listed : Array Bool) (s : TSt), Z8k C.T l.toArray n pl m f listed = true → (pl.isNo = false → Zz C l tail pl s = some r) → WFr (Zq l) s0 s →
   (m = false → pl.isNo = false → DrawT P X l.toArray n f listed K' s.toSt) ∧ (∀ i ∈ pl.ids, ∃ f', f = f' + 1 ∧ Branch P X l.toArray n f' listed K' s.toSt i) := by
 intro pl
 induction pl with
 | done =>
  intro m f listed s hp hx hf
  simp only [Z8k, Bool.and_eq_true, Bool.not_eq_true', decide_eq_true_eq] at hp
  obtain ⟨⟨_, rfl⟩, h3⟩ := hp
  exact ⟨fun _ _ => hk s listed (hx rfl) hf h3, fun i hi => by cases hi⟩
 | no =>
  intro m f listed s hp hx hf
  exact ⟨fun _ h => (by cases h), fun i hi => by cases hi⟩
 | swp k pr ih =>
  intro m f listed s hp hx hf0
  have hx := hx rfl
  simp only [Z8k, Bool.and_eq_true, Bool.not_eq_true'] at hp
  obtain ⟨⟨hm0, hno⟩, hp⟩ := hp
  refine ⟨fun _ _ => ?_, fun i hi => by cases hi⟩
  simp only [Zz] at hx
  unfold Zib at hx
  split at hx
  ·rename_i hle
   rw [Bool.and_eq_true] at hle
   have hL : s.heap.length - k + 1 < s.heap.length := by have := Nat.le_of_ble_eq_true hle.1; omega
   exact DrawT.from (Ze1 (by rw [hm]; exact Nat.le_of_ble_eq_true hle.2) hL) ((ih false f listed _ hp (fun _ => hx) (hf0.trans (Zfu _ _ _) (fun _ h => h) (fun _ h => h))).1 rfl hno)
  ·exact (ih false f listed s hp (fun _ => hx) hf0).1 rfl hno
 | take i pr ih =>
  intro m f listed s hp hx hf0
  have hx := hx rfl
  simp only [Z8k, Bool.and_eq_true, Bool.not_eq_true'] at hp
  obtain ⟨hm0, hp⟩ := hp
  refine ⟨fun _ _ => ?_, fun i hi => by cases hi⟩
  cases f with
  | zero => cases hp
  | succ f =>
   simp only [Bool.and_eq_true, decide_eq_true_eq] at hp
   obtain ⟨⟨⟨⟨hin, hr⟩, hfree⟩, hst⟩, hp⟩ := hp
   simp only [Zz] at hx
   split at hx
   ·rename_i o hi
    have hi' : l.toArray[i]? = some o := by rw [List.getElem?_toArray, ← nthOp_eq]; exact hi
    rw [hi'] at hst
    have ho : o ∈ l := List.mem_of_getElem? (by rw [← nthOp_eq]; exact hi)
    have hdm : ∀ d, o.dst = some d → d ∈ Zq l := fun d hd => Z1h ho hd
    have ihs : ∀ {s' : TSt}, WFr (Zq l) s0 s' → Zz C l tail pr s' = some r → DrawT P X l.toArray n f (listed.setIfInBounds i true) K' s'.toSt := fun {s'} h1 h2 => by
     have hno : pr.isNo = false := by
      cases pr with
      | no => cases h2
      | _ => rfl
     exact (ih false f _ s' hp (fun _ => h2) h1).1 rfl hno
    have step : ∀ {s' : TSt}, WFr (Zq l) s0 s' → (∀ a w, Rep X s'.toSt a w → Region.wanted o (yielded l.toArray a.tmps) = true) → Z2o C true o (Zz C l tail pr) s' = some r → DrawT P X l.toArray n (f + 1) listed K' s'.toSt := by
     intro s' hf hwant hx
     obtain ⟨hd', x, v, hv, hle, hx⟩ := Zes (X := X) (l := l) hC hn hst hx
     refine DrawT.take hi' hs hh hin hr hfree hd' (x := x.toAV s'.heap) (fun σ F a w hat => ?_) ?_
     ·obtain ⟨u, h1, h2⟩ := hv σ F a w hat
      exact ⟨u, .inl ⟨hwant a w ⟨σ, F, hat⟩, fun w' _ => h1 w'⟩, RepV.le hle h2⟩
     ·rw [← TSt.put_ok]
      exact ihs (WFr.put hf hdm _) hx
    unfold Z21 at hx
    split at hx
    ·rename_i hg
     exact step hf0 (fun a w hr => by simp [Region.wanted, hg]) hx
    ·rename_i j want hg
     split at hx
     ·rename_i d hj
      have hj' : (l.toArray[j]?).bind (·.dst) = some d := by rw [List.getElem?_toArray, ← nthDst_eq]; exact hj
      have hdj := Z4d hj
      have wf1 : ∀ (v : SV), WFr (Zq l) s0 (s.put (some d) v) := fun v => WFr.put hf0 (fun i hi => by cases hi; exact hdj) v
      have skip : ∀ {s' : TSt}, WFr (Zq l) s0 s' → dOK X.n o.dst → (∀ a w, Rep X s'.toSt a w → Region.wanted o (yielded l.toArray a.tmps) = false) → Zz C l tail pr (s'.put o.dst undefS) = some r → DrawT P X l.toArray n (f + 1) listed K' s'.toSt := by
       intro s' hf hdst hno hx9
       have h9 := ihs (WFr.put hf hdm _) hx9
       rw [TSt.put_ok, Z4a] at h9
       exact DrawT.take hi' hs hh hin hr hfree hdst (fun σ F a w hat => ⟨undef, .inr ⟨hno a w ⟨σ, F, hat⟩, rfl⟩, .f _ _ (.v _)⟩) h9
      split at hx
      ·rename_i hu hdn
       rw [Bool.and_eq_true] at hdn
       have hu' := Z4f hu
       refine skip hf0 (hn ▸ Z27 hdn.2) (fun a w hr => ?_) hx
       have h1 := Z28 hj' (hn ▸ of_decide_eq_true hdn.1) (by simp only [TSt.toSt, Zn]; rw [hu']; rfl) hr
       simp [Region.wanted, hg, h1]
      ·rename_i hu hdn
       rw [Bool.and_eq_true] at hdn
       have hdl : d < X.n := hn ▸ of_decide_eq_true hdn.1
       split at hx
       ·rename_i b hb
        obtain ⟨h1, h2⟩ := Za7 hx
        have known : ∀ {b' : Bool} {a : Act} {w : World}, Rep X (s.put (some d) (.cst (.bool b'))).toSt a w → yielded l.toArray a.tmps j = some b' := fun {b' a w} hr =>
         Z3g hj' hdl (s := (s.put (some d) (.cst (.bool b'))).toSt) (by simp only [TSt.toSt, Zn, TSt.put, tget, if_true]; rfl) hr
        by_cases e : b = want
        ·refine DrawT.from (Z2u (by rw [hb, e])) (step (wf1 _) (fun a w hr => ?_) (h1 e))
         simp [Region.wanted, hg, known hr]
        ·have e' : b = !want := by cases b <;> cases want <;> first | rfl | exact absurd rfl e
         refine DrawT.from (Z2u (b := !want) (by rw [hb, e'])) (skip (wf1 _) (hn ▸ Z27 hdn.2) (fun a w hr => ?_) (h2 e'))
         simp [Region.wanted, hg, known hr]
       ·cases hx
      ·cases hx
     ·cases hx
   ·cases hx
 | alt i pa pb iha ihb =>
  intro m f listed s hp hx hf0
  have hx := hx rfl
  simp only [Z8k, Bool.and_eq_true] at hp
  obtain ⟨hrd, hp⟩ := hp
  cases f with
  | zero => cases hp
  | succ f =>
   simp only [Bool.and_eq_true, decide_eq_true_eq] at hp
   obtain ⟨⟨hin, hpa⟩, hpb⟩ := hp
   have hx2 : (match nthOp l i with
    | some o => Z21 C l o (Z6u C o (Zz C l tail pa)) (Zz C l tail pa) s
    | none => none) = some r ∧ (pb.isNo = false → Zz C l tail pb s = some r) := by
    simp only [Zz] at hx
    cases hb : pb.isNo with
    | true => rw [hb] at hx; exact ⟨hx, fun h => by cases h⟩
    | false => rw [hb] at hx; obtain ⟨h1, h2⟩ := Zcn hx; exact ⟨h1, fun _ => h2⟩
   obtain ⟨hx1, hxb⟩ := hx2
   have hbr := (ihb true (f + 1) listed s hpb hxb hf0).2
   have hone : Branch P X l.toArray n f listed K' s.toSt i := by
    split at hx1
    ·rename_i o hi
     have hi' : l.toArray[i]? = some o := by rw [List.getElem?_toArray, ← nthOp_eq]; exact hi
     have ho : o ∈ l := List.mem_of_getElem? (by rw [← nthOp_eq]; exact hi)
     have hdm : ∀ d, o.dst = some d → d ∈ Zq l := fun d hd => Z1h ho hd
     have ihs : ∀ {s' : TSt}, WFr (Zq l) s0 s' → Zz C l tail pa s' = some r → DrawT P X l.toArray n f (listed.setIfInBounds i true) K' s'.toSt := fun {s'} h1 h2 => by
      have hno : pa.isNo = false := by
       cases pa with
       | no => cases h2
       | _ => rfl
      exact (iha false f _ s' hpa (fun _ => h2) h1).1 rfl hno
     have step : ∀ {s' : TSt}, WFr (Zq l) s0 s' → (∀ a w, Rep X s'.toSt a w → Region.wanted o (yielded l.toArray a.tmps) = true) → Z6u C o (Zz C l tail pa) s' = some r → Branch P X l.toArray n f listed K' s'.toSt i := by
      intro s' hf hwant hx
      refine ⟨hin, o, hi', fun Qc next a w hnx hr => ?_⟩
      rw [if_pos (hwant a w hr)]
      unfold Z6u at hx
      split at hx
      ·rename_i hd
       refine (Zfr hdm (Zh9 hC hm (hn ▸ Z27 hd)) hx) Qc next a w (fun s2 a' w' hl hr' => ?_) hr
       obtain ⟨s1, h1, h2, h3⟩ := hl
       exact hnx _ _ _ (ihs (hf.trans h3 (fun _ h => h) (fun _ h => h)) h2) (h1 a' w' hr')
      ·cases hx
     unfold Z21 at hx1
     split at hx1
     ·rename_i hg
      exact step hf0 (fun a w hr => by simp [Region.wanted, hg]) hx1
     ·rename_i j want hg
      split at hx1
      ·rename_i d hj
       have hj' : (l.toArray[j]?).bind (·.dst) = some d := by rw [List.getElem?_toArray, ← nthDst_eq]; exact hj
       have hdj := Z4d hj
       have wf1 : ∀ (v : SV), WFr (Zq l) s0 (s.put (some d) v) := fun v => WFr.put hf0 (fun i hi => by cases hi; exact hdj) v
       have skip : ∀ {s' : TSt}, WFr (Zq l) s0 s' → dOK X.n o.dst → (∀ a w, Rep X s'.toSt a w → Region.wanted o (yielded l.toArray a.tmps) = false) → Zz C l tail pa (s'.put o.dst undefS) = some r → Branch P X l.toArray n f listed K' s'.toSt i := by
        intro s' hf hdst hno hx9
        have h9 := ihs (WFr.put hf hdm _) hx9
        rw [TSt.put_ok, Z4a] at h9
        refine ⟨hin, o, hi', fun Qc next a w hnx hr => ?_⟩
        rw [if_neg (by simp [hno a w hr])]
        obtain ⟨σ, F, hr⟩ := hr
        exact hnx _ _ _ h9 ⟨σ, F, hr.put hdst (.f _ _ (.v _))⟩
       split at hx1
       ·rename_i hu hdn
        rw [Bool.and_eq_true] at hdn
        have hu' := Z4f hu
        refine skip hf0 (hn ▸ Z27 hdn.2) (fun a w hr => ?_) hx1
        have h1 := Z28 hj' (hn ▸ of_decide_eq_true hdn.1) (by simp only [TSt.toSt, Zn]; rw [hu']; rfl) hr
        simp [Region.wanted, hg, h1]
       ·rename_i hu hdn
        rw [Bool.and_eq_true] at hdn
        have hdl : d < X.n := hn ▸ of_decide_eq_true hdn.1
        split at hx1
        ·rename_i b hb
         obtain ⟨h1, h2⟩ := Za7 hx1
         have known : ∀ {b' : Bool} {a : Act} {w : World}, Rep X (s.put (some d) (.cst (.bool b'))).toSt a w → yielded l.toArray a.tmps j = some b' := fun {b' a w} hr =>
          Z3g hj' hdl (s := (s.put (some d) (.cst (.bool b'))).toSt) (by simp only [TSt.toSt, Zn, TSt.put, tget, if_true]; rfl) hr
         by_cases e : b = want
         ·refine Branch.from (Z2u (by rw [hb, e])) (step (wf1 _) (fun a w hr => ?_) (h1 e))
          simp [Region.wanted, hg, known hr]
         ·have e' : b = !want := by cases b <;> cases want <;> first | rfl | exact absurd rfl e
          refine Branch.from (Z2u (b := !want) (by rw [hb, e'])) (skip (wf1 _) (hn ▸ Z27 hdn.2) (fun a w hr => ?_) (h2 e'))
          simp [Region.wanted, hg, known hr]
        ·cases hx1
       ·cases hx1
      ·cases hx1
    ·cases hx1
   have hids : ∀ q ∈ (Plan.alt i pa pb).ids, ∃ f', f + 1 = f' + 1 ∧ Branch P X l.toArray n f' listed K' s.toSt q := by
    intro q hq
    rcases List.mem_cons.1 hq with rfl | hq
    ·exact ⟨f, rfl, hone⟩
    ·exact hbr q hq
   refine ⟨fun hm0 _ => ?_, hids⟩
   subst hm0
   rw [Bool.false_or] at hrd
   have hrd := of_decide_eq_true hrd
   refine DrawT.all (by rw [hrd]; simp) (fun q hq => ?_)
   rw [hrd] at hq
   obtain ⟨f', e, hb⟩ := hids q hq
   obtain rfl : f = f' := by omega
   exact hb
theorem WP.drawT {id : Nat} {Q : Exit → St → Prop} {l : List Oper} {n : Nat} {s : St} (hm : P.follows .mixedOrders = true) (hn : n ≤ l.toArray.size)
  (hQ : ∀ c s, ¬ Q (.panic c) s) (hro : X.ro = none ∨ noDef l = true)
  (h : DrawT P X l.toArray n n (Array.replicate l.toArray.size false) (Q .normal) s) : WP P X (.region id l.toArray true) Q s := by
 intro a w hr
 rcases hro with hro | hd
 ·rw [WP.wide hro]
  refine wp_region_any hm ?_
  have inv0 : HeadInv .any l.toArray n (Array.replicate l.toArray.size false) :=
   ⟨by simp, fun j oj _ hl => (by rw [getD_replicate_false] at hl; cases hl), fun t _ ht => getD_in (by simpa using ht) (getD_replicate_false _ _)⟩
  have H := h (fun e a w => ∃ s, Q e s ∧ Rep X s a w) a { w with drawn := w.drawn + 1 } (fun c a b w ⟨s, h1, _⟩ => absurd h1 (hQ c s)) (fun s' a' w' h1 h2 => ⟨s', h1, h2⟩) hr.drawn inv0
  have hsz : l.toArray.size = n + (l.toArray.size - n) := by omega
  have H2 := Z5u (g := l.toArray.size - n) (fun listed a' w' hL => by
   have := wpAny_of_seq (md := .any) (Q' := fun e a w => ∃ s, Q e s ∧ Rep X s a w) (l.toArray.toList.drop n) n listed a' w' (fun j => by simp [List.getElem?_drop]) (by simpa using hL.1) hL.2
   simpa using this) _ _ _ _ H
  rwa [← hsz] at H2
 ·skip
  have inv0 : HeadInv .any l.toArray n (Array.replicate l.toArray.size false) :=
   ⟨by simp, fun j oj _ hl => (by rw [getD_replicate_false] at hl; cases hl), fun t _ ht => getD_in (by simpa using ht) (getD_replicate_false _ _)⟩
  have H := h (fun e a w => e = .normal ∧ ∃ s, Q .normal s ∧ Rep X s a w) a { w with drawn := w.drawn + 1 } (fun c a b w h => nomatch h.1) (fun s' a' w' h1 h2 => ⟨rfl, s', h1, h2⟩) hr.drawn inv0
  have hsz : l.toArray.size = n + (l.toArray.size - n) := by omega
  have H2 := Z5u (g := l.toArray.size - n) (fun listed a' w' hL => by
   have := wpAny_of_seq (md := .any) (Q' := fun e a w => e = .normal ∧ ∃ s, Q .normal s ∧ Rep X s a w) (l.toArray.toList.drop n) n listed a' w' (fun j => by simp [List.getElem?_drop]) (by simpa using hL.1) hL.2
   simpa using this) _ _ _ _ H
  rw [← hsz] at H2
  exact wpIn_mono (wpIn_region_any hm (Zcv (ro := X.ro) (fun ⟨a, w, h⟩ => by cases h.1) hd _ _ _ _ H2)) (fun e a w ⟨he, s', h2, h3⟩ => by subst he; exact ⟨s', h2, h3⟩)
theorem Zfd (hC : CxOK P C) (hn : X.n = C.n) (hm : X.m = C.m) {id : Nat} {l : List Oper} (hro : X.ro = none ∨ noDef l = true) {d : Nat × Plan} {K : TSt → Option β} {s : TSt} {r : β} (hB : regP C.T l.toArray d = true)
  (h : Zz C l (Z3b C l (Z86 l d.1) K) d.2 s = some r) :
  WP P X (.region id l.toArray true) (fun e s' => ∃ s1, Imp X s' s1.toSt ∧ e = .normal ∧ K s1 = some r ∧ WFr (Zq l) s s1) s.toSt := by
 obtain ⟨n, pl⟩ := d
 simp only [regP, Bool.and_eq_true, decide_eq_true_eq] at hB
 obtain ⟨⟨⟨hsel, hhd⟩, hn'⟩, hp⟩ := hB
 have hno : pl.isNo = false := by
  cases pl with
  | no => cases h
  | _ => rfl
 let Q : Exit → St → Prop := fun e s' => match e with
  | .normal => lk X K r (Zq l) s s'
  | _ => False
 have h1 := (Zdq (r := r) (s0 := s) (K' := Q .normal) hC hn hm hsel hhd (tail := Z3b C l (Z86 l n) K) (fun s' listed hx hf hw => by
  refine DrawT.nil hw ?_
  rw [Zai] at hx
  have h1 := Z5j hC hn hm l (l.drop n) K s' r (fun o ho => List.mem_of_mem_drop ho) hx
  intro Qc a w hK hr
  have h2 := h1 Qc a w (fun s2 a' w' ⟨s3, h3, h4, h5⟩ hr' => hK s2 a' w' ⟨s3, h3, h4, hf.trans h5 (fun _ h => h) (fun _ h => h)⟩ hr') hr
  simpa using h2) pl false n _ s hp (fun _ => h) (.refl _ _)).1 rfl hno
 refine WP.mono (WP.drawT (P := P) (X := X) (id := id) (Q := Q) (l := l) hC.mixed hn' (fun c s h => h) hro (s := s.toSt) h1) (fun e s' hq => ?_)
 cases e with
 | normal =>
  obtain ⟨s1, h2, h3, h4⟩ := hq
  exact ⟨s1, h2, rfl, h3, h4⟩
 | _ => exact hq.elim
end
end Go.Proofs.YtcphmeggalaplaaDoor.Eng
set_option linter.unusedVariables false
set_option linter.unusedSimpArgs false
namespace Go.Proofs.YtcphmeggalaplaaDoor.Eng
open Go Go.RowKit
def writes : Code → List Nat
 | .region _ ops _ => Zq ops.toList
 | .seq a b => writes a ++ writes b
 | .cond _ a b => writes a ++ writes b
 | .block _ b => writes b
 | .loop b => writes b
 | _ => []
def plainC : Code → Bool
 | .region _ ops _ => noDef ops.toList
 | .seq a b => plainC a && plainC b
 | .cond _ a b => plainC a && plainC b
 | .block _ b => plainC b
 | .loop b => plainC b
 | .skip => true
 | .exit _ => true
 | .ret => true
 | _ => false
def FraOK (k : Bool) (X : Ctx) (c : Code) : Prop := match k with
 | false => X.ro = none ∧ X.rf = false
 | true => (X.ro = none ∧ X.rf = true) ∨ plainC c = true
def childC : Nat → Code → Option Code
 | 0, .seq a _ => some a
 | 1, .seq _ b => some b
 | 0, .cond _ a _ => some a
 | 1, .cond _ _ b => some b
 | 0, .block _ b => some b
 | 0, .loop b => some b
 | 0, .rangeFunc _ _ a _ => some a
 | 1, .rangeFunc _ _ _ b => some b
 | _, _ => none
def atC (root : Code) : List Nat → Option Code
 | [] => some root
 | i :: p => (match atC root p with
  | some c => childC i c
  | none => none)
def TW (P : Program) (X : Ctx) (c : Code) (s : TSt) (Q : Exit → TSt → Prop) : Prop := WP P X c (fun e s' => ∃ s1, Imp X s' s1.toSt ∧ Q e s1) s.toSt
def LoopOK (k : Bool) (P : Program) (C : Cx) (ent : Ent) (b : Code) : Prop :=
 ∀ (X : Ctx), X.n = C.n → X.m = C.m → FraOK k X b → ∀ (β : Type) (K : Exit → TSt → Option β) (s : TSt) (r : β), runL C ent K s = some r → TW P X (.loop b) s (fun e s1 => K e s1 = some r ∧ WFr (writes b) s s1)
def LoopOKM (P : Program) (C : Cx) (ent : EntM) (b : Code) : Prop :=
 ∀ (X : Ctx), X.n = C.n → X.m = C.m → FraOK false X b → ∀ (β : Type) (K : Exit → TSt → Option β) (s : TSt) (r : β), runM C ent K s = some r → TW P X (.loop b) s (fun e s1 => K e s1 = some r ∧ WFr (writes b) s s1)
def LoopOKR (P : Program) (C : Cx) (ent : EntR) (it : Operand) (ps : Array Tmp) (a b : Code) : Prop :=
 ∀ (X : Ctx), X.n = C.n → X.m = C.m → X.ro = none → X.rf = true → ∀ (β : Type) (K : Exit → TSt → Option β) (s : TSt) (r : β), runR C ent K s = some r → TW P X (.rangeFunc it ps a b) s (fun e s1 => K e s1 = some r ∧ WFr [] s s1)
def LoopOKE (k : Bool) (P : Program) (C : Cx) (e : LE) (c : Code) : Prop := match e with
 | .w ent => ∀ b, c = .loop b → LoopOK k P C ent b
 | .m ent => k = false ∧ ∀ b, c = .loop b → C.m = 0 ∧ LoopOKM P C ent b
 | .r ent => k = true ∧ ∀ it ps a b, c = .rangeFunc it ps a b → LoopOKR P C ent it ps a b
def LsOK (P : Program) (C : Cx) (root : Code) (L : List Nat → Option LE) (k : Bool := false) : Prop := ∀ p ent c, L p = some ent → atC root p = some c → LoopOKE k P C ent c
theorem FraOK.sub {k : Bool} {X : Ctx} {c d : Code} (h : FraOK k X c) (hp : plainC c = true → plainC d = true) : FraOK k X d := by
 cases k with
 | false => exact h
 | true => exact h.imp id hp
section
variable {P : Program} {C : Cx} {X : Ctx} {β : Type} {root : Code} {L : List Nat → Option LE}
theorem TW.mono {c : Code} {s : TSt} {Q Q' : Exit → TSt → Prop} (h : TW P X c s Q) (hq : ∀ e s, Q e s → Q' e s) : TW P X c s Q' := WP.mono h fun e s' ⟨s1, h1, h2⟩ => ⟨s1, h1, hq _ _ h2⟩
theorem TW.from {c : Code} {s s' : TSt} {Q : Exit → TSt → Prop} (hi : Imp X s.toSt s'.toSt) (h : TW P X c s' Q) : TW P X c s Q := WP.from hi h
theorem Z84 {k : Bool} (hC : CxOK P C) (hn : X.n = C.n) (hm : X.m = C.m) (hL : LsOK P C root L k) : ∀ (c : Code) (p : List Nat) (K : Exit → TSt → Option β) (s : TSt) (r : β), FraOK k X c → atC root p = some c → exF C L c p K s = some r → TW P X c s (fun e s1 => K e s1 = some r ∧ WFr (writes c) s s1) := by
 intro c
 induction c with
 | skip => exact fun p K s r _ _ h => WP.skip ⟨s, .refl _ _, h, .refl _ _⟩
 | exit id => exact fun p K s r _ _ h => WP.exit ⟨s, .refl _ _, h, .refl _ _⟩
 | ret => exact fun p K s r _ _ h => WP.ret ⟨s, .refl _ _, h, .refl _ _⟩
 | region id ops drawn =>
  intro p K s r hfr _ h
  simp only [exF] at h
  cases drawn with
  | false =>
   have h1 := Z5j hC hn hm ops.toList ops.toList (K .normal) s r (fun o ho => ho) h
   have := WP.region (P := P) (id := id) (l := ops.toList) (Q := fun e s' => ∃ s1, Imp X s' s1.toSt ∧ K e s1 = some r ∧ WFr (writes (.region id ops false)) s s1) h1 (by
    cases k with
    | false => exact .inl hfr.1
    | true => exact hfr.imp (fun h => h.1) (fun h => by simpa [plainC] using h))
   simpa [TW] using this
  | true =>
   have hro : X.ro = none ∨ noDef ops.toList = true := by
    cases k with
    | false => exact .inl hfr.1
    | true => exact hfr.imp (fun h => h.1) (fun h => by simpa [plainC] using h)
   simp only at h
   split at h
   ·rename_i d hD
    split at h
    ·rename_i hB
     have hB' : regB ops.toList.toArray d = true := by simpa using hB
     obtain ⟨π, hl, hn', _, _, h1⟩ := Zha (l := ops.toList) hC hn hm hB' h
     let Q : Exit → St → Prop := fun e s' => match e with
      | .normal => ∃ s1, Imp X s' s1.toSt ∧ K .normal s1 = some r ∧ WFr (writes (.region id ops true)) s s1
      | _ => False
     have h2 := WP.draw2 (P := P) (X := X) (id := id) (Q := Q) (l := ops.toList) hC.mixed hl hn' (fun c s h => h) hro (s := s.toSt) h1
     have h3 : WP P X (.region id ops true) Q s.toSt := by simpa using h2
     refine WP.mono h3 (fun e s' hq => ?_)
     cases e with
     | normal => exact hq
     | _ => exact hq.elim
    ·cases h
   ·split at h
    ·rename_i d hD
     split at h
     ·rename_i hB
      have hB' : regP C.T ops.toList.toArray d = true := by simpa using hB
      have h1 := Zfd (id := id) (l := ops.toList) hC hn hm hro hB' h
      have h3 : TW P X (.region id ops true) s (fun e s1 => K e s1 = some r ∧ WFr (Zq ops.toList) s s1) := by
       have := TW.mono (P := P) (X := X) (c := .region id ops.toList.toArray true) (s := s) (Q := fun e s1 => e = .normal ∧ K .normal s1 = some r ∧ WFr (Zq ops.toList) s s1) (Q' := fun e s1 => K e s1 = some r ∧ WFr (Zq ops.toList) s s1) h1 (fun e s1 hq => by obtain ⟨rfl, h5, h6⟩ := hq; exact ⟨h5, h6⟩)
       simpa using this
      exact h3
     ·cases h
    ·cases h
 | seq a b iha ihb =>
  intro p K s r hfr hat h
  simp only [exF] at h
  have h1 := iha (0 :: p) _ s r (hfr.sub fun h => (Bool.and_eq_true_iff.1 h).1) (by simp only [atC, hat]; rfl) h
  refine WP.seq (WP.mono h1 (fun e s' hq => ?_))
  obtain ⟨s1, h2, h3, h4⟩ := hq
  have inA : ∀ i, i ∉ writes (.seq a b) → i ∉ writes a := fun i hi h => hi (List.mem_append_left _ h)
  have inB : ∀ i, i ∉ writes (.seq a b) → i ∉ writes b := fun i hi h => hi (List.mem_append_right _ h)
  cases e with
  | normal =>
   refine WP.from h2 (WP.mono (ihb (1 :: p) K s1 r (hfr.sub fun h => (Bool.and_eq_true_iff.1 h).2) (by simp only [atC, hat]; rfl) h3) (fun e s' hq => ?_))
   obtain ⟨s2, h5, h6, h7⟩ := hq
   exact ⟨s2, h5, h6, h4.trans h7 inA inB⟩
  | _ => exact ⟨s1, h2, h3, h4.mono inA⟩
 | cond c a b iha ihb =>
  intro p K s r hfr hat h
  simp only [exF] at h
  split at h
  ·rename_i t ht
   obtain ⟨h1, h2⟩ := Z6m h
   have inA : ∀ i, i ∉ writes (.cond c a b) → i ∉ writes a := fun i hi h => hi (List.mem_append_left _ h)
   have inB : ∀ i, i ∉ writes (.cond c a b) → i ∉ writes b := fun i hi h => hi (List.mem_append_right _ h)
   refine WP.cond (t := t) (by rw [TSt.ev_ok, Z3f ht]) (fun e => ?_) (fun e => ?_)
   ·exact TW.mono (iha (0 :: p) K s r (hfr.sub fun h => (Bool.and_eq_true_iff.1 h).1) (by simp only [atC, hat]; rfl) (h1 e)) (fun e s1 hq => ⟨hq.1, hq.2.mono inA⟩)
   ·exact TW.mono (ihb (1 :: p) K s r (hfr.sub fun h => (Bool.and_eq_true_iff.1 h).2) (by simp only [atC, hat]; rfl) (h2 e)) (fun e s1 hq => ⟨hq.1, hq.2.mono inB⟩)
  ·cases h
 | block id b ih =>
  intro p K s r hfr hat h
  simp only [exF] at h
  have h1 := ih (0 :: p) _ s r (hfr.sub fun h => h) (by simp only [atC, hat]; rfl) h
  refine WP.block (WP.mono h1 (fun e s' hq => ?_))
  obtain ⟨s1, h2, h3, h4⟩ := hq
  cases e with
  | exit i =>
   simp only at h3
   simp only [Zef]
   split at h3
   ·rename_i hi
    rw [if_pos (of_decide_eq_true hi)]
    exact ⟨s1, h2, h3, h4⟩
   ·rename_i hi
    rw [if_neg (of_decide_eq_false hi)]
    exact ⟨s1, h2, h3, h4⟩
  | _ => exact ⟨s1, h2, h3, h4⟩
 | loop b _ =>
  intro p K s r hfr hat h
  simp only [exF] at h
  split at h
  ·rename_i ent hent
   exact hL p (.w ent) _ hent hat b rfl X hn hm (hfr.sub fun h => h) β K s r h
  ·rename_i ent hent
   obtain ⟨rfl, h1⟩ := hL p (.m ent) _ hent hat
   exact (h1 b rfl).2 X hn hm (hfr.sub fun h => h) β K s r h
  ·cases h
 | rangeFunc it ps a b _ _ =>
  intro p K s r hfr hat h
  simp only [exF] at h
  split at h
  ·rename_i ent hent
   obtain ⟨rfl, h1⟩ := hL p (.r ent) _ hent hat
   obtain ⟨h2, h3⟩ : X.ro = none ∧ X.rf = true := hfr.elim id (fun h => by cases h)
   exact h1 it ps a b rfl X hn hm h2 h3 β K s r h
  ·cases h
 | _ => intro p K s r _ _ h; simp [exF] at h
theorem WP.ghost {α : Type} {b : Code} {Q : Exit → St → Prop} (I : α → St) (Inv : α → Prop) (μ : α → Nat) (g0 : α) (h0 : Inv g0) (round : ∀ g, Inv g → WP P X b (Zeq (fun s' => ∃ g', Imp X s' (I g') ∧ Inv g' ∧ μ g' < μ g) Q) (I g)) : WP P X (.loop b) Q (I g0) := by
 rintro a w hr
 refine Z2e (fun n a w => ∃ g, μ g = n ∧ Inv g ∧ Rep X (I g) a w) (μ g0) ⟨g0, rfl, h0, hr⟩ ?_
 rintro n a w ⟨g, rfl, hI, hr⟩
 refine wpIn_mono (round g hI a w hr) ?_
 rintro e a w ⟨s', h1, h2⟩
 cases e with
 | normal =>
  obtain ⟨g', hi, hI', hlt⟩ := h1
  exact ⟨μ g', hlt, g', rfl, hI', hi a w h2⟩
 | _ => exact ⟨s', h1, h2⟩
theorem memN_ok : ∀ (l : List Nat) (i : Nat), memN l i = true → i ∈ l
 | x :: r, i, h => by
  unfold memN at h
  by_cases hx : x = i
  ·subst hx; exact List.mem_cons_self ..
  ·rw [if_neg hx] at h; exact List.mem_cons_of_mem _ (memN_ok r i h)
def subN : List Nat → List Nat → Bool
 | [], _ => true
 | x :: r, l => memN l x && subN r l
theorem subN_ok : ∀ (l m : List Nat), subN l m = true → ∀ i ∈ l, i ∈ m
 | x :: r, m, h, i, hi => by
  simp only [subN, Bool.and_eq_true] at h
  rcases List.mem_cons.1 hi with rfl | hi
  ·exact memN_ok _ _ h.1
  ·exact subN_ok r m h.2 i hi
def Zh (l : List (Nat × SK)) : List Nat := l.map (·.1)
def apartN : List Nat → List Nat → Bool
 | [], _ => true
 | x :: r, l => !memN l x && apartN r l
theorem memN_not : ∀ (l : List Nat) (i : Nat), memN l i = false → i ∉ l
 | [], _, _ => by simp
 | x :: r, i, h => by
  unfold memN at h
  by_cases hx : x = i
  ·rw [if_pos hx] at h; cases h
  ·rw [if_neg hx] at h
   simp only [List.mem_cons, not_or]
   exact ⟨fun e => hx e.symm, memN_not r i h⟩
theorem apartN_ok : ∀ (l m : List Nat), apartN l m = true → ∀ i ∈ l, i ∉ m
 | x :: r, m, h, i, hi => by
  simp only [apartN, Bool.and_eq_true, Bool.not_eq_true'] at h
  rcases List.mem_cons.1 hi with rfl | hi
  ·exact memN_not _ _ h.1
  ·exact apartN_ok r m h.2 i hi
def preSlots : List PA → List Nat
 | [] => []
 | .nil d _ _ :: r => d :: preSlots r
 | .nilT d _ _ _ :: r => d :: preSlots r
 | .frz _ :: r => preSlots r
 | .nilB _ _ _ _ :: r => preSlots r
theorem Z2g {W : List Nat} : ∀ (l : List PA), (∀ i ∈ preSlots l, i ∈ W) → ∀ p ∈ l, ∀ d, p.slot = some d → d ∈ W
 | .nil d e t :: r, h, p, hp, d', hpe => by
  rcases List.mem_cons.1 hp with rfl | hp
  ·cases hpe; exact h d (List.mem_cons_self ..)
  ·exact Z2g r (fun i hi => h i (List.mem_cons_of_mem _ hi)) p hp d' hpe
 | .nilT d e ei t :: r, h, p, hp, d', hpe => by
  rcases List.mem_cons.1 hp with rfl | hp
  ·cases hpe; exact h d (List.mem_cons_self ..)
  ·exact Z2g r (fun i hi => h i (List.mem_cons_of_mem _ hi)) p hp d' hpe
 | .frz d :: r, h, p, hp, d', hpe => by
  rcases List.mem_cons.1 hp with rfl | hp
  ·cases hpe
  ·exact Z2g r h p hp d' hpe
 | .nilB b j e t :: r, h, p, hp, d', hpe => by
  rcases List.mem_cons.1 hp with rfl | hp
  ·cases hpe
  ·exact Z2g r h p hp d' hpe
def exitSlots : List (Exit × Shape) → List Nat
 | [] => []
 | p :: r => Zh p.2.slots ++ exitSlots r
def pureSl : List (Nat × SK) → List Nat
 | [] => []
 | (i, .val _) :: r => i :: pureSl r
 | (i, .rp _) :: r => i :: pureSl r
 | (i, .fn _) :: r => i :: pureSl r
 | (_, .own _ _) :: r => pureSl r
 | (_, .que _ _) :: r => pureSl r
 | (_, .ptr _ _) :: r => pureSl r
 | (_, .nm _ _) :: r => pureSl r
 | (_, .agg _) :: r => pureSl r
 | (_, .nil) :: r => pureSl r
 | (_, .inn _) :: r => pureSl r
 | (_, .clo _ _) :: r => pureSl r
def ownSl : List (Nat × SK) → List Nat
 | [] => []
 | (_, .val _) :: r => ownSl r
 | (_, .rp _) :: r => ownSl r
 | (_, .fn _) :: r => ownSl r
 | (i, .own _ _) :: r => i :: ownSl r
 | (i, .que _ _) :: r => i :: ownSl r
 | (i, .ptr _ _) :: r => i :: ownSl r
 | (i, .nm _ _) :: r => i :: ownSl r
 | (i, .agg _) :: r => i :: ownSl r
 | (i, .nil) :: r => i :: ownSl r
 | (i, .inn _) :: r => i :: ownSl r
 | (i, .clo _ _) :: r => i :: ownSl r
def pureEx : List (Exit × Shape) → List Nat
 | [] => []
 | p :: r => pureSl p.2.slots ++ pureEx r
def ownEx : List (Exit × Shape) → List Nat
 | [] => []
 | p :: r => ownSl p.2.slots ++ ownEx r
theorem slot_or : ∀ (l : List (Nat × SK)) (i : Nat), i ∈ Zh l → i ∈ pureSl l ∨ i ∈ ownSl l
 | (j, sk) :: r, i, hi => by
  rcases List.mem_cons.1 hi with h | h
  ·have h' : i = j := h
   subst h'
   cases sk <;> simp [pureSl, ownSl]
  ·rcases slot_or r i h with h | h <;> cases sk <;> simp [pureSl, ownSl, h]
theorem Z16 {env : List (Nat × SV)} {n : Nat} : ∀ (l : List (Nat × SK)) (i : Nat), Z9 env n l = true → i ∈ ownSl l → (∃ k sz, tget env i = .own k sz) ∨ (∃ k sz, tget env i = .ptr k 0 sz 0) ∨ (∃ k q, tget env i = .nm k q) ∨ (∃ cs, tget env i = .agg cs) ∨ (∃ f c cs, tget env i = .fn f (c :: cs)) ∨ ∃ c, tget env i = .cst c
 | (j, sk) :: r, i, hc, hi => by
  cases sk with
  | val t => exact Z16 r i hc hi
  | rp t => exact Z16 r i hc hi
  | fn g =>
   simp only [Z9] at hc
   split at hc
   ·simp only [Bool.and_eq_true] at hc; exact Z16 r i hc.2 hi
   ·cases hc
  | own k sz =>
   simp only [Z9] at hc
   split at hc
   ·rename_i k' sz' hg
    simp only [Bool.and_eq_true] at hc
    rcases List.mem_cons.1 hi with h | h
    ·subst h; exact .inl ⟨_, _, hg⟩
    ·exact Z16 r i hc.2 h
   ·cases hc
  | que k sz =>
   simp only [Z9] at hc
   split at hc
   ·rename_i k' sz' hg
    simp only [Bool.and_eq_true] at hc
    rcases List.mem_cons.1 hi with h | h
    ·subst h; exact .inl ⟨_, _, hg⟩
    ·exact Z16 r i hc.2 h
   ·cases hc
  | ptr k sz =>
   simp only [Z9] at hc
   split at hc
   ·rename_i k' sz' hg
    simp only [Bool.and_eq_true] at hc
    rcases List.mem_cons.1 hi with h | h
    ·subst h; exact .inr (.inl ⟨_, _, hg⟩)
    ·exact Z16 r i hc.2 h
   ·cases hc
  | nm k sz =>
   simp only [Z9] at hc
   split at hc
   ·rename_i k' sz' hg
    simp only [Bool.and_eq_true] at hc
    rcases List.mem_cons.1 hi with h | h
    ·subst h; exact .inr (.inr (.inl ⟨_, _, hg⟩))
    ·exact Z16 r i hc.2 h
   ·cases hc
  | inn k =>
   simp only [Z9] at hc
   split at hc
   ·rename_i k' q hg
    simp only [Bool.and_eq_true] at hc
    rcases List.mem_cons.1 hi with h | h
    ·subst h; exact .inr (.inr (.inl ⟨_, _, hg⟩))
    ·exact Z16 r i hc.2 h
   ·cases hc
  | agg cs =>
   simp only [Z9] at hc
   split at hc
   ·rename_i xs hg
    simp only [Bool.and_eq_true] at hc
    rcases List.mem_cons.1 hi with h | h
    ·subst h; exact .inr (.inr (.inr (.inl ⟨_, hg⟩)))
    ·exact Z16 r i hc.2 h
   ·cases hc
  | clo f cs =>
   simp only [Z9] at hc
   split at hc
   ·rename_i f' c xs hg
    simp only [Bool.and_eq_true] at hc
    rcases List.mem_cons.1 hi with h | h
    ·subst h; exact .inr (.inr (.inr (.inr (.inl ⟨_, _, _, hg⟩))))
    ·exact Z16 r i hc.2 h
   ·cases hc
  | nil =>
   simp only [Z9] at hc
   split at hc
   ·rename_i hg
    rcases List.mem_cons.1 hi with h | h
    ·subst h; exact .inr (.inr (.inr (.inr (.inr ⟨_, hg⟩))))
    ·exact Z16 r i hc h
   ·cases hc
def Ent.fits (ent : Ent) (m : Nat) (b : Code) : Bool := decide (ent.m = m) && Nat.ble m ent.car.objs.length && (subN (pureSl ent.car.slots) (writes b) && subN (pureEx ent.exits) (writes b) && subN (ownEx ent.exits) (writes b ++ ownSl ent.car.slots) && subN (preSlots ent.pre) (writes b) &&
 apartN (Zh ent.inv) (writes b) && apartN (Zh ent.inv) (Zh ent.car.slots) && apartN (Zh ent.inv) (exitSlots ent.exits))
end
end Go.Proofs.YtcphmeggalaplaaDoor.Eng
set_option linter.unusedVariables false
set_option linter.unusedSimpArgs false
namespace Go.Proofs.YtcphmeggalaplaaDoor.Eng
open Go Go.RowKit
section
variable {P : Program} {C : Cx} {X : Ctx} {β : Type} {root : Code} {L : List Nat → Option LE}
theorem Z2q {sh : Shape} {s : TSt} {k : denL sh.tys → Option β} {r : β} (h : decS sh s k = some r) : ∃ x, (Z9 s.env sh.objs.length sh.slots && Zv sh.objs.length s.heap sh.objs) = true ∧ asTL [] sh.tys (Z8 s.env sh.slots ++ colObjs s.heap sh.objs) = some x ∧ k x = some r := by
 unfold decS at h
 split at h
 ·rename_i hc
  split at h
  ·rename_i x hx
   exact ⟨x, hc, hx, h⟩
  ·cases h
 ·cases h
theorem Zhe {env : List (Nat × SV)} : ∀ (inv : List (Nat × SK)) (vs : List SV), Z1r env inv = true → Rel3 (slotTys inv) (Z8 env inv) vs →
  (encSlots inv vs).1.map (·.1) = Zh inv ∧ ∀ i, i ∈ Zh inv → (∀ H H' n, LeS H H' n (tget env i) (tget (encSlots inv vs).1 i)) ∧ tget env i ≠ .any ∧ (∀ t (x : t.den), tget env i = .val t x → tget (encSlots inv vs).1 i = .val t x) ∧ (∀ t (x : t.den), tget env i = .rp t x → tget (encSlots inv vs).1 i = .rp t x) ∧
   (∀ g, tget env i = .fn g [] → tget (encSlots inv vs).1 i = .fn g []) ∧ ((∃ t x, tget (encSlots inv vs).1 i = .val t x) ∨ (∃ t x, tget (encSlots inv vs).1 i = .rp t x) ∨ ∃ g, tget (encSlots inv vs).1 i = .fn g []) := by
 intro inv
 induction inv with
 | nil => exact fun vs _ _ => ⟨rfl, fun i hi => by cases hi⟩
 | cons p r ih =>
  obtain ⟨j, sk⟩ := p
  have fin : ∀ {vs vs' : List SV} {v : SV}, Z1r env r = true → Rel3 (slotTys r) (Z8 env r) vs' → (encSlots ((j, sk) :: r) vs).1 = (j, v) :: (encSlots r vs').1 →
    (∀ H H' n, LeS H H' n (tget env j) v) → tget env j ≠ .any → (∀ t (x : t.den), tget env j = .val t x → v = .val t x) → (∀ t (x : t.den), tget env j = .rp t x → v = .rp t x) → (∀ g, tget env j = .fn g [] → v = .fn g []) → ((∃ t x, v = .val t x) ∨ (∃ t x, v = .rp t x) ∨ ∃ g, v = .fn g []) →
    (encSlots ((j, sk) :: r) vs).1.map (·.1) = Zh ((j, sk) :: r) ∧ ∀ i, i ∈ Zh ((j, sk) :: r) → (∀ H H' n, LeS H H' n (tget env i) (tget (encSlots ((j, sk) :: r) vs).1 i)) ∧ tget env i ≠ .any ∧ (∀ t (x : t.den), tget env i = .val t x → tget (encSlots ((j, sk) :: r) vs).1 i = .val t x) ∧ (∀ t (x : t.den), tget env i = .rp t x → tget (encSlots ((j, sk) :: r) vs).1 i = .rp t x) ∧
     (∀ g, tget env i = .fn g [] → tget (encSlots ((j, sk) :: r) vs).1 i = .fn g []) ∧ ((∃ t x, tget (encSlots ((j, sk) :: r) vs).1 i = .val t x) ∨ (∃ t x, tget (encSlots ((j, sk) :: r) vs).1 i = .rp t x) ∨ ∃ g, tget (encSlots ((j, sk) :: r) vs).1 i = .fn g []) := by
   intro vs vs' v hc hr he h1 h2 h3 h4 h5 h6
   obtain ⟨h7, h8⟩ := ih vs' hc hr
   rw [he]
   refine ⟨by simp only [List.map_cons, Zh]; rw [h7]; rfl, fun i hi => ?_⟩
   simp only [tget]
   by_cases hij : i = j
   ·subst hij
    simp only [if_true]
    exact ⟨h1, h2, h3, h4, h5, h6⟩
   ·simp only [if_neg hij]
    simp only [Zh, List.map_cons, List.mem_cons] at hi
    exact h8 i (hi.resolve_left hij)
  intro vs hc hr
  cases sk with
  | val t =>
   simp only [slotTys, Z8] at hr
   cases hr with
   | @cons _ _ y _ _ _ hu hr =>
    simp only [Z1r] at hc
    have hc2 : Z1r env r = true ∧ (∀ t' (x : t'.den), tget env j ≠ .rp t' x) ∧ ∀ g, tget env j ≠ .fn g [] := by
     cases hg : tget env j <;> rw [hg] at hc <;> first | (simp only at hc; exact ⟨hc, (fun t' x e => by cases e), fun g e => by cases e⟩) | (simp at hc)
    refine fin hc2.1 hr rfl (fun H H' n => Z6x (Lends.none (Z18 n) H) hu) (fun e => by rw [e, Zao] at hu; cases hu) (fun t' x e => ?_) (fun t' x e => absurd e (hc2.2.1 t' x)) (fun g e => absurd e (hc2.2.2 g)) (.inl ⟨t, y, rfl⟩)
    ·rw [e] at hu
     obtain ⟨e1, h9⟩ := Zc (show Zm t t' x = some y from hu)
     subst e1
     subst h9
     rfl
  | rp t =>
   simp only [slotTys, Z8] at hr
   cases hr with
   | @cons _ _ y _ _ _ hu hr =>
    have key : tget env j = .rp t y := by
     revert hu
     cases tget env j with
     | rp u z =>
      intro hu
      obtain ⟨e, h9⟩ := Zc (show Zm t u z = some y from hu)
      subst e
      subst h9
      rfl
     | _ => intro hu; rw [show unRp _ = SV.any from rfl, Zao] at hu; cases hu
    refine fin hc hr rfl (fun H H' n => by rw [key]; exact .refl _) (by rw [key]; simp) (fun t' x e => by rw [key] at e; cases e) (fun t' x e => by rw [key] at e; exact e) (fun g e => by rw [key] at e; cases e) (.inr (.inl ⟨t, y, rfl⟩))
  | fn g =>
   simp only [slotTys, Z8] at hr
   simp only [Z1r] at hc
   split at hc
   ·rename_i g' hg
    simp only [Bool.and_eq_true, decide_eq_true_eq] at hc
    obtain ⟨rfl, hc⟩ := hc
    refine fin hc hr rfl (fun H H' n => by rw [hg]; exact .refl _) (by rw [hg]; simp) (fun t' x e => by rw [hg] at e; cases e) (fun t' x e => by rw [hg] at e; cases e) (fun g e => by rw [hg] at e; exact e) (.inr (.inr ⟨_, rfl⟩))
   ·cases hc
  | own k sz => simp [Z1r] at hc
  | que k sz => simp [Z1r] at hc
  | ptr k sz => simp [Z1r] at hc
  | nm k sz => simp [Z1r] at hc
  | agg cs => simp [Z1r] at hc
  | nil => simp [Z1r] at hc
  | inn k => simp [Z1r] at hc
  | clo f cs => simp [Z1r] at hc
theorem Zfb {m : Nat} (hm : X.m = m) : ∀ (l : List (Exit × Shape)) (e : Exit) (s : TSt) (k : sumD l → Option β) (r : β), Zfc m l e s k = some r → ∃ (sh : Shape) (s' : TSt) (x : denL sh.tys) (y : sumD l), k y = some r ∧ Imp X s.toSt s'.toSt ∧ PureSame s s' ∧
  (Z9 s'.env sh.objs.length sh.slots && Zv sh.objs.length s'.heap sh.objs) = true ∧ asTL [] sh.tys (Z8 s'.env sh.slots ++ colObjs s'.heap sh.objs) = some x ∧ (∀ i ∈ Zh sh.slots, i ∈ exitSlots l) ∧ (∀ i ∈ pureSl sh.slots, i ∈ pureEx l) ∧ (∀ i ∈ ownSl sh.slots, i ∈ ownEx l) ∧ m ≤ sh.objs.length ∧
  ∀ {γ : Type} (k' : Exit → (sh : Shape) → denL sh.tys → Option γ), Zji l y k' = k' e sh x := by
 intro l
 induction l with
 | nil => intro e s k r h; simp [Zfc] at h
 | cons p l ih =>
  intro e s k r h
  cases l with
  | nil =>
   simp only [Zfc] at h
   split at h
   ·rename_i he
    rw [Bool.and_eq_true] at he
    obtain rfl := Zae he.1
    obtain ⟨s', h1, h2, h3⟩ := Z9p (X := X) hm _ _ _ _ h
    obtain ⟨x, h4, h5, h6⟩ := Z2q h1
    exact ⟨p.2, s', x, x, h6, h2, h3, h4, h5, fun i hi => by simp only [exitSlots, List.append_nil]; exact hi, fun i hi => by simp only [pureEx, List.append_nil]; exact hi, fun i hi => by simp only [ownEx, List.append_nil]; exact hi, Nat.le_of_ble_eq_true he.2, fun k' => rfl⟩
   ·cases h
  | cons q l =>
   simp only [Zfc] at h
   split at h
   ·rename_i he
    obtain rfl := Zae he
    split at h
    ·rename_i hbl
     obtain ⟨s', h1, h2, h3⟩ := Z9p (X := X) hm _ _ _ _ h
     obtain ⟨x, h4, h5, h6⟩ := Z2q h1
     exact ⟨p.2, s', x, .inl x, h6, h2, h3, h4, h5, fun i hi => List.mem_append_left _ hi, fun i hi => List.mem_append_left _ hi, fun i hi => List.mem_append_left _ hi, Nat.le_of_ble_eq_true hbl, fun k' => rfl⟩
    ·cases h
   ·obtain ⟨sh, s', x, y, h1, h2, h3, h4, h5, h6, h8, h9, h10, h7⟩ := ih e s _ r h
    exact ⟨sh, s', x, .inr y, h1, h2, h3, h4, h5, fun i hi => List.mem_append_right _ (h6 i hi), fun i hi => List.mem_append_right _ (h8 i hi), fun i hi => List.mem_append_right _ (h9 i hi), h10, fun k' => h7 k'⟩
theorem Z7d (sh : Shape) (x : denL sh.tys) (fr : List (Nat × SV)) : (encS sh x fr).env = (encSlots sh.slots (svL sh.tys x)).1 ++ fr := rfl
theorem encSlots_keys : ∀ (slots : List (Nat × SK)) (l : List SV), ∀ i ∈ (encSlots slots l).1.map (·.1), i ∈ Zh slots
 | [], l, i, hi => by simp [encSlots] at hi
 | (j, sk) :: r, l, i, hi => by
  have go : ∀ {v : SV} {l' : List SV}, i ∈ ((j, v) :: (encSlots r l').1).map (·.1) → i ∈ Zh ((j, sk) :: r) := fun {v l'} h => by
   rcases List.mem_cons.1 h with h | h
   ·rw [h]; exact List.mem_cons_self ..
   ·exact List.mem_cons_of_mem _ (encSlots_keys r l' i h)
  cases sk with
  | val t => cases l with
   | nil => simp [encSlots] at hi
   | cons y l => exact go hi
  | rp t => cases l with
   | nil => simp [encSlots] at hi
   | cons y l => exact go hi
  | own k sz => exact go hi
  | que k sz => exact go hi
  | ptr k sz => exact go hi
  | nm k sz => exact go hi
  | fn g => exact go hi
  | agg cs => exact go hi
  | nil => exact go hi
  | inn k => cases l with
   | nil => simp [encSlots] at hi
   | cons y l => exact go hi
  | clo f cs => exact go hi
theorem knownB_ok : ∀ (env : List (Nat × SV)) (inv : List (Nat × SK)), Zc6 env inv = true → ∀ i ∈ Zh inv, tget env i ≠ .any
 | env, (j, sk) :: r, h, i, hi => by
  unfold Zc6 at h
  split at h
  ·cases h
  ·rename_i hne
   rcases List.mem_cons.1 hi with h1 | h1
   ·have h2 : i = j := h1
    subst h2
    exact hne
   ·exact knownB_ok env r h i h1
theorem LoopOK.of {k : Bool} (hC : CxOK P C) {p : List Nat} {b : Code} (hL : LsOK P C root L k) (hat : atC root p = some (.loop b)) {ent : Ent} (hfit : ent.fits C.m b = true)
  (hstep : ∀ iv x, exF C L b (0 :: p) ent.kd (ent.head iv x) = ent.step iv x) : LoopOK k P C ent b := by
 intro X hn hm hfra β K s r h
 simp only [Ent.fits, Bool.and_eq_true] at hfit
 obtain ⟨⟨f0, f8⟩, ⟨⟨⟨⟨⟨f1, f2⟩, f7⟩, f3⟩, f4⟩, f5⟩, f6⟩ := hfit
 have hm : X.m = ent.m := hm.trans (of_decide_eq_true f0).symm
 have hmC := (of_decide_eq_true f0)
 have f8 : X.m ≤ ent.car.objs.length := by rw [hm, hmC]; exact Nat.le_of_ble_eq_true f8
 have f1 := subN_ok _ _ f1
 have f2 := subN_ok _ _ f2
 have f7 := subN_ok _ _ f7
 have f3 := subN_ok _ _ f3
 have f4 := apartN_ok _ _ f4
 have f5 := apartN_ok _ _ f5
 have f6 := apartN_ok _ _ f6
 unfold runL at h
 split at h
 ·rename_i s1 hs1
  obtain ⟨s2, h1, h2, h3⟩ := Z9p (X := X) hm _ _ _ _ h
  split at h1
  ·rename_i iv hci hiv
   obtain ⟨x, h4, h5, h6⟩ := Z2q h1
   obtain ⟨y, h7, h8⟩ := Z3l h6
   have hI := Zhe (env := s2.env) ent.inv _ hci (rel3_of _ _ _ hiv)
   have hkeys : (encI ent.inv iv).map (·.1) = Zh ent.inv := hI.1
   have hfr : ∀ s' : TSt, (∀ i ∈ Zh ent.inv, tget s'.env i = tget (encI ent.inv iv) i) → FrOK (encI ent.inv iv) s' := by
    intro s' hs' H H' n i
    by_cases hi : i ∈ Zh ent.inv
    ·rw [hs' i hi]
     rcases (hI.2 i hi).2.2.2.2.2 with ⟨t, z, e⟩ | ⟨t, z, e⟩ | ⟨g, e⟩
     ·have e' : tget (encI ent.inv iv) i = .val t z := e
      rw [e']; unfold LeS; simp only [SV.toAV]; rw [Z1l]; exact .refl _
     ·have e' : tget (encI ent.inv iv) i = .rp t z := e
      rw [e']; exact .refl _
     ·have e' : tget (encI ent.inv iv) i = .fn g [] := e
      rw [e']; exact .refl _
    ·rw [tget_not (encI ent.inv iv) i (by rw [hkeys]; exact hi)]; exact .any _
   have hfr2 : FrOK (encI ent.inv iv) s2 := fun H H' n i => by
    by_cases hi : i ∈ Zh ent.inv
    ·exact (hI.2 i hi).1 H H' n
    ·rw [tget_not (encI ent.inv iv) i (by rw [hkeys]; exact hi)]; exact .any _
   have hhead : Imp X s.toSt (ent.head iv x).toSt := (Zga C.TY _ _ _ hs1).trans (h2.trans (Z6l f8 h4 h5 hfr2))
   have stay : ∀ (x' : denL ent.car.tys) (s' : TSt), WFr (writes b) (ent.head iv x') s' → Zc6 s'.env ent.inv = true → ∀ i ∈ Zh ent.inv, tget s'.env i = tget (encI ent.inv iv) i := by
    intro x' s' hw hk i hi
    have hne := knownB_ok _ _ hk i hi
    have hnw := f4 i hi
    have hh : tget (ent.head iv x').env i = tget (encI ent.inv iv) i := by
     unfold Ent.head
     rw [Z7d, tget_app, if_neg]
     intro hmem
     exact f5 i hi (encSlots_keys _ _ i hmem)
    have h9 := hw i hnw
    rw [hh] at h9
    rcases (hI.2 i hi).2.2.2.2.2 with ⟨t, z, e⟩ | ⟨t, z, e⟩ | ⟨g, e⟩
    ·have e' : tget (encI ent.inv iv) i = .val t z := e
     rw [e']; exact (h9.2.1 t z e').resolve_left hne
    ·have e' : tget (encI ent.inv iv) i = .rp t z := e
     rw [e']; exact (h9.2.2.1 t z e').resolve_left hne
    ·have e' : tget (encI ent.inv iv) i = .fn g [] := e
     rw [e']; exact (h9.2.2.2 g e').resolve_left hne
   have stay2 : ∀ (s' s'' : TSt), PureSame s' s'' → (∀ i ∈ Zh ent.inv, tget s'.env i = tget (encI ent.inv iv) i) → ∀ i ∈ Zh ent.inv, tget s''.env i = tget (encI ent.inv iv) i := by
    intro s' s'' hps hs' i hi
    have h9 := hps i
    rw [hs' i hi] at h9
    rcases (hI.2 i hi).2.2.2.2.2 with ⟨t, z, e⟩ | ⟨t, z, e⟩ | ⟨g, e⟩
    ·have e' : tget (encI ent.inv iv) i = .val t z := e
     rw [e']; exact h9.2.1 t z e'
    ·have e' : tget (encI ent.inv iv) i = .rp t z := e
     rw [e']; exact h9.2.2.1 t z e'
    ·have e' : tget (encI ent.inv iv) i = .fn g [] := e
     rw [e']; exact h9.2.2.2 g e'
   have hout : ∀ (sh : Shape) (z : denL sh.tys), (∀ i ∈ pureSl sh.slots, i ∈ writes b) → (∀ i ∈ ownSl sh.slots, i ∈ writes b ++ ownSl ent.car.slots) → WFr (writes b) s (encS sh z (encI ent.inv iv)) := by
    intro sh z hsh hsho i hi
    have h9 := preF_fr (writes b) C.TY _ _ _ hs1 (Z2g _ f3) i hi
    have h10 := h3 i
    by_cases hk : i ∈ Zh sh.slots
    ·
     have ho : i ∈ ownSl ent.car.slots := by
      rcases slot_or _ _ hk with h | h
      ·exact absurd (hsh i h) hi
      ·exact (List.mem_append.1 (hsho i h)).resolve_left hi
     have hchk := Z16 _ i (by rw [Bool.and_eq_true] at h4; exact h4.1) ho
     have no : ∀ v : SV, tget s2.env i = v → (∀ k sz, v ≠ .own k sz) → (∀ k sz, v ≠ .ptr k 0 sz 0) → (∀ k q, v ≠ .nm k q) → (∀ cs, v ≠ .agg cs) → (∀ f c cs, v ≠ .fn f (c :: cs)) → (∀ c, v ≠ .cst c) → False := by
      intro v e h1 h2 h3 h4 h5 h6
      rcases hchk with ⟨k, sz, h⟩ | ⟨k, sz, h⟩ | ⟨k, sz, h⟩ | ⟨cs, h⟩ | ⟨f, c, cs, h⟩ | ⟨c, h⟩
      ·exact h1 k sz (e.symm.trans h)
      ·exact h2 k sz (e.symm.trans h)
      ·exact h3 k sz (e.symm.trans h)
      ·exact h4 cs (e.symm.trans h)
      ·exact h5 f c cs (e.symm.trans h)
      ·exact h6 c (e.symm.trans h)
     refine ⟨fun e => ?_, fun t z e => ?_, fun t z e => ?_, fun g e => ?_⟩
     ·exact (no _ (h10.1 (h9.1 e)) (fun _ _ h => by cases h) (fun _ _ h => by cases h) (fun _ _ h => by cases h) (fun _ h => by cases h) (fun _ _ _ h => by cases h) (fun _ h => by cases h)).elim
     ·rcases h9.2.1 t z e with e | e
      ·exact (no _ (h10.1 e) (fun _ _ h => by cases h) (fun _ _ h => by cases h) (fun _ _ h => by cases h) (fun _ h => by cases h) (fun _ _ _ h => by cases h) (fun _ h => by cases h)).elim
      ·exact (no _ (h10.2.1 t z e) (fun _ _ h => by cases h) (fun _ _ h => by cases h) (fun _ _ h => by cases h) (fun _ h => by cases h) (fun _ _ _ h => by cases h) (fun _ h => by cases h)).elim
     ·rcases h9.2.2.1 t z e with e | e
      ·exact (no _ (h10.1 e) (fun _ _ h => by cases h) (fun _ _ h => by cases h) (fun _ _ h => by cases h) (fun _ h => by cases h) (fun _ _ _ h => by cases h) (fun _ h => by cases h)).elim
      ·exact (no _ (h10.2.2.1 t z e) (fun _ _ h => by cases h) (fun _ _ h => by cases h) (fun _ _ h => by cases h) (fun _ h => by cases h) (fun _ _ _ h => by cases h) (fun _ h => by cases h)).elim
     ·rcases h9.2.2.2 g e with e | e
      ·exact (no _ (h10.1 e) (fun _ _ h => by cases h) (fun _ _ h => by cases h) (fun _ _ h => by cases h) (fun _ h => by cases h) (fun _ _ _ h => by cases h) (fun _ h => by cases h)).elim
      ·exact (no _ (h10.2.2.2 g e) (fun _ _ h => by cases h) (fun _ _ h => by cases h) (fun _ _ h => by cases h) (fun _ h => by cases h) (fun _ _ _ h => by cases h) (fun _ h => by cases h)).elim
    ·rw [Z7d, tget_app, if_neg (fun hmem => hk (encSlots_keys _ _ i hmem))]
     by_cases hii : i ∈ Zh ent.inv
     ·have hq := hI.2 i hii
      refine ⟨fun e => absurd (h10.1 (h9.1 e)) hq.2.1, fun t z e => ?_, fun t z e => ?_, fun g e => ?_⟩
      ·rcases h9.2.1 t z e with e | e
       ·exact absurd (h10.1 e) hq.2.1
       ·exact .inr (hq.2.2.1 t z (h10.2.1 t z e))
      ·rcases h9.2.2.1 t z e with e | e
       ·exact absurd (h10.1 e) hq.2.1
       ·exact .inr (hq.2.2.2.1 t z (h10.2.2.1 t z e))
      ·rcases h9.2.2.2 g e with e | e
       ·exact absurd (h10.1 e) hq.2.1
       ·exact .inr (hq.2.2.2.2.1 g (h10.2.2.2 g e))
     ·have e := tget_not (encI ent.inv iv) i (by rw [hkeys]; exact hii)
      exact ⟨fun _ => e, fun _ _ _ => .inl e, fun _ _ _ => .inl e, fun _ _ => .inl e⟩
   obtain ⟨n, hN⟩ := Z39 h7
   refine TW.from hhead ?_
   unfold TW
   refine WP.ghost (α := denL ent.car.tys × Nat) (fun g => (ent.head iv g.1).toSt) (fun g => Z3o (ent.step iv) g.2 g.1 = some y) (fun g => g.2) (x, n) hN ?_
   rintro ⟨x', n'⟩ hN'
   cases n' with
   | zero => cases hN'
   | succ n' =>
    have hat' : atC root (0 :: p) = some b := by simp only [atC, hat]; rfl
    cases hst : ent.step iv x' with
    | none => simp only [Z3o, hst] at hN'; cases hN'
    | some q =>
     have hex := Z84 hC hn (hm.trans hmC) hL b (0 :: p) ent.kd (ent.head iv x') q hfra hat' (by rw [hstep]; exact hst)
     refine WP.mono hex (fun e s' hq => ?_)
     obtain ⟨s3, h9, h10, h11⟩ := hq
     unfold Ent.kd at h10
     split at h10
     ·rename_i hk
      have hs3 := stay x' s3 h11 hk
      split at h10
      ·rename_i he
       obtain rfl := Zae he
       obtain ⟨s4, h12, h13, h14⟩ := Z9p (X := X) hm _ _ _ _ h10
       obtain ⟨x2, h15, h16, h17⟩ := Z2q h12
       cases h17
       simp only [Z3o, hst] at hN'
       refine ⟨(x2, n'), h9.trans (h13.trans (Z6l f8 h15 h16 (hfr s4 (stay2 _ _ h14 hs3)))), hN', Nat.lt_succ_self _⟩
      ·rename_i he
       obtain ⟨sh, s4, z, y2, h12, h13, h14, h15, h16, h17, h19, h20, h21, h18⟩ := Zfb hm _ _ _ _ _ h10
       cases h12
       simp only [Z3o, hst] at hN'
       cases hN'
       have hres : ∃ s5, Imp X s' s5.toSt ∧ K e s5 = some r ∧ WFr (writes b) s s5 := by
        refine ⟨encS sh z (encI ent.inv iv), h9.trans (h13.trans (Z6l (by rw [hm]; exact h21) h15 h16 (hfr s4 (stay2 _ _ h14 hs3)))), ?_, hout sh z (fun i hi => f2 i (h19 i hi)) (fun i hi => f7 i (h20 i hi))⟩
        rw [← h8, h18]
       cases e with
       | normal => exact absurd he (by decide)
       | _ => exact hres
     ·cases h10
  ·cases h1
 ·cases h
end
end Go.Proofs.YtcphmeggalaplaaDoor.Eng
set_option linter.unusedVariables false
set_option linter.unusedSimpArgs false
namespace Go.Proofs.YtcphmeggalaplaaDoor.Eng
open Go Go.RowKit
section
variable {P : Program} {C : Cx} {X : Ctx} {β : Type} {root : Code} {L : List Nat → Option LE}
end
end Go.Proofs.YtcphmeggalaplaaDoor.Eng
set_option linter.unusedVariables false
set_option linter.unusedSimpArgs false
namespace Go.Proofs.YtcphmeggalaplaaDoor.Eng
open Go Go.RowKit
section
variable {P : Program} {C : Cx} {X : Ctx} {β : Type} {root : Code} {L : List Nat → Option LE}
theorem WPO.mono {ops : Array Oper} {rest : List Oper} {K K' : St → Prop} {s : St} (h : WPO P X ops rest K s) (hk : ∀ s, K s → K' s) : WPO P X ops rest K' s := fun Qc a w hK hr => h Qc a w (fun s' a' w' h1 h2 => hK s' a' w' (hk _ h1) h2) hr
end
end Go.Proofs.YtcphmeggalaplaaDoor.Eng
set_option linter.unusedVariables false
set_option linter.unusedSimpArgs false
namespace Go.Proofs.YtcphmeggalaplaaDoor.Eng
open Go Go.RowKit
section
variable {P : Program} {C : Cx} {X : Ctx} {β : Type} {root : Code} {L : List Nat → Option LE}
theorem noSl_ok : ∀ {l : List (Nat × SK)} {i : Nat}, noSl l i = true → i ∉ Zh l
 | [], _, _ => by simp [Zh]
 | p :: r, i, h => by
  simp only [noSl, Bool.and_eq_true, Bool.not_eq_true', decide_eq_false_iff_not] at h
  simp only [Zh, List.map_cons, List.mem_cons, not_or]
  exact ⟨fun e => h.1 e.symm, noSl_ok h.2⟩
end
end Go.Proofs.YtcphmeggalaplaaDoor.Eng
set_option linter.unusedVariables false
set_option linter.unusedSimpArgs false
namespace Go.Proofs.YtcphmeggalaplaaDoor.Eng
open Go Go.RowKit
inductive RV where
 | tmp (i : Nat)
 | cell (p ty : Nat)
def RV.var : RV → ResultVar
 | .tmp i => .tmp i
 | .cell p ty => .cell p ty
def resV (C : Cx) (s : TSt) : RV → SV
 | .tmp i => tget s.env i
 | .cell p ty => (match C.T ty, tget s.env p with
  | some i, .ptr id k _ j => (match nth s.heap id with
   | some (.box _ cs) => if k = 0 ∧ j + i.size ≤ cs.length ∧ 0 < i.size ∧ (i.k.agg = true ∨ i.size = 1) then Zch i (cs.drop j) else .any
   | _ => .any)
  | _, _ => .any)
def Z1o (C : Cx) (s : TSt) : List RV → List SV
 | [] => []
 | r :: l => resV C s r :: Z1o C s l
def resK (C : Cx) (res : List Ty) (rs : List RV) (s : TSt) : Option (denL res) := let s1 := frzFor C.TY s (Z1o C s rs); asTL [] res (Z1o C s1 rs)
def retK (C : Cx) (res : List Ty) (rs : List RV) (e : Exit) (s : TSt) : Option (denL res) := match e with
 | .normal => resK C res rs s
 | .ret => resK C res rs s
 | _ => none
def svA : SV → SV
 | .val .nilS _ => .cst (.slice none 0 0)
 | .val (.fnc f) _ => .fn f []
 | .val (.ref t) x => .rp t x
 | x => x
theorem svA_ok (h : List TObj) (x : SV) : (svA x).toAV h = x.toAV h := by
 unfold svA
 split <;> rfl
theorem Zd8 (h : List TObj) (l : List SV) : SV.toAVL h (l.map svA) = SV.toAVL h l := by
 rw [SV.toAVL_eq, SV.toAVL_eq, List.map_map]
 exact List.map_congr_left fun x _ => svA_ok h x
def Z35 (args : List Ty) (x : denL args) : TSt := ⟨Z5m 0 ((svL args x).map svA), []⟩
section
variable {P : Program} {C : Cx} {X : Ctx} {root : Code} {L : List Nat → Option LE}
theorem asTL_any : ∀ (res : List Ty) (l : List SV) (y : denL res), asTL [] res l = some y → SV.any ∉ l := by
 intro res
 induction res with
 | nil => intro l y h; cases l with
  | nil => simp
  | cons x l => cases h
 | cons t r ih =>
  intro l y h
  cases l with
  | nil => simp
  | cons x l =>
   simp only [asTL] at h
   cases hp : asT [] t x with
   | none => rw [hp] at h; cases h
   | some p =>
    rw [hp] at h
    simp only at h
    cases hq : asTL [] r l with
    | none => rw [hq] at h; cases r <;> cases h
    | some q =>
     have h2 := ih l q hq
     simp only [List.mem_cons, not_or]
     refine ⟨fun e => ?_, h2⟩
     rw [← e, Zao] at hp
     cases hp
theorem Z2f (s : TSt) : ∀ rs : List RV, SV.any ∉ Z1o C s rs → ∃ c, Z5c C.T s.toSt (rs.map RV.var) = some (c, SV.toAVL s.heap (Z1o C s rs)) ∧ c
 | [], _ => ⟨True, rfl, trivial⟩
 | r :: l, hno => by
  simp only [Z1o, List.mem_cons, not_or] at hno
  obtain ⟨c, h1, h2⟩ := Z2f s l hno.2
  have one : ∃ c', Z7m C.T s.toSt r.var = some (c', (resV C s r).toAV s.heap) ∧ c' := by
   cases r with
   | tmp i => exact ⟨True, by simp only [RV.var, Z7m, resV, TSt.toSt, Zn], trivial⟩
   | cell p ty =>
    have hne := hno.1
    simp only [resV] at hne ⊢
    cases hT : C.T ty with
    | none => rw [hT] at hne; exact absurd rfl hne
    | some i =>
     rw [hT] at hne
     cases hp : tget s.env p with
     | ptr id k sz j =>
      rw [hp] at hne
      simp only at hne ⊢
      cases hq : nth s.heap id with
      | none => rw [hq] at hne; exact absurd rfl hne
      | some ob =>
       rw [hq] at hne
       cases ob with
       | box e cs =>
        simp only at hne ⊢
        by_cases hc : k = 0 ∧ j + i.size ≤ cs.length ∧ 0 < i.size ∧ (i.k.agg = true ∨ i.size = 1)
        ·rw [if_pos hc]
         obtain ⟨rfl, h4, h5, h6⟩ := hc
         refine ⟨_, by simp only [RV.var, Z7m, hT, TSt.toSt, Zn, hp, SV.toAV]; rw [show (List.map (TObj.toObj s.heap) s.heap)[id]? = some (.box e (SV.toAVL s.heap cs)) from by rw [List.getElem?_map, ← Z7, hq]; rfl]; simp only [Z10]; rw [Z5y, Z8a], ?_⟩
         refine ⟨by simp, by rw [Z1d]; exact h4, h5, fun h7 => ?_⟩
         rcases h6 with h6 | h6
         ·rw [h7] at h6; cases h6
         ·exact h6
        ·rw [if_neg hc] at hne; exact absurd rfl hne
       | _ => exact absurd rfl hne
     | _ => rw [hp] at hne; exact absurd rfl hne
  obtain ⟨c', h3, h4⟩ := one
  exact ⟨c' ∧ c, by simp only [List.map_cons, Z5c, h1, h3, Z1o, SV.toAVL], h4, h2⟩
theorem Z62 (f : AV → AV) (l : List AV) : (retAV l).sub f = retAV (l.map (AV.sub f)) := by
 cases l with
 | nil => rfl
 | cons x r =>
  cases r with
  | nil => rfl
  | cons y r => simp only [retAV, List.map_cons, AV.sub, AV.subL_eq]
theorem Z9o {l m : List AV} (h : AV.leL l m) : AV.le (retAV l) (retAV m) := by
 cases l with
 | nil => cases m with
  | nil => exact .refl _
  | cons y r => exact h.elim
 | cons x r =>
  cases m with
  | nil => exact h.elim
  | cons y q =>
   cases r with
   | nil => cases q with
    | nil => exact h.1
    | cons z q => exact h.2.elim
   | cons x' r => cases q with
    | nil => exact h.2.elim
    | cons y' q => exact AV.leTup h
theorem Z7c (h : List TObj) : ∀ (l : List SV) (k : Nat), (Z5m k l).map (fun p => (p.1, p.2.toAV h)) = Z14 k (SV.toAVL h l)
 | [], _ => rfl
 | x :: r, k => by simp only [Z5m, List.map_cons, SV.toAVL, Z14]; rw [Z7c h r]
theorem FnOK.of (hC : CxOK P C) {f : Nat} {func : Func} (hE : Enters P f) (hf : P.funcs[f]? = some func) (hb : func.body = some root) {fn : TFn} {rs : List RV} (hrs : func.results.toList = rs.map RV.var) (hn : fn.args.length + (func.ntmps - fn.args.length) = C.n)
  (hL : LsOK P C root L) (hstep : ∀ x, exF C L root [] (retK C fn.res rs) (Z35 fn.args x) = fn.run x) (hm0 : C.m = 0 := by rfl) : FnOK P f fn := by
 refine ⟨hE, fun x r hr => ?_⟩
 have hlen : ∀ (ts : List Ty) (x : denL ts), (avL ts x).length = ts.length := by
  intro ts
  induction ts with
  | nil => exact fun x => rfl
  | cons t q ih =>
   intro x
   cases q with
   | nil => rfl
   | cons u q => simp only [avL, List.length_cons]; rw [ih x.2]; rfl
 refine FSpec.of_WP' hC.T hf hb (fun X hXn hXm hro hrf => ?_)
 have hst : (Z35 fn.args x).toSt = ⟨Z14 0 (avL fn.args x), []⟩ := by
  simp only [Z35, TSt.toSt, Z7c, Zd8, Zba, List.map_nil]
 have h1 := Z84 (β := denL fn.res) hC (X := X) (by rw [hXn, hlen]; exact hn) (hXm.trans hm0.symm) hL root [] (retK C fn.res rs) (Z35 fn.args x) r ⟨hro, hrf⟩ rfl (by rw [hstep]; exact hr)
 unfold TW at h1
 rw [hst] at h1
 refine h1.monoR (fun e s hq => ?_)
 obtain ⟨s1, h2, h3, _⟩ := hq
 have key : resK C fn.res rs s1 = some r → ∃ s', (∀ a w, Rep X s a w → Rep X s' a w) ∧ Ret C.T func 0 (fun r' h => r' = retAV (avL fn.res r) ∧ h = []) s' := by
  intro h3
  unfold resK at h3
  have hfz := Z2k (X := X) (C := C) (s := s1) (Z1o C s1 rs)
  generalize frzFor C.TY s1 (Z1o C s1 rs) = s2 at h3 hfz
  simp only at h3
  refine ⟨s2.toSt, h2.trans hfz.1, ?_⟩
  unfold Ret
  rw [hrs]
  obtain ⟨c, h4, h5⟩ := Z2f (C := C) s2 rs (asTL_any _ _ _ h3)
  rw [h4]
  refine ⟨h5, [], by simp, by simp, _, ?_, rfl, by simp [Z1n]⟩
  have h6 := Z8f (Lends.none (Z1t []) s2.heap) _ _ _ h3
  have e : List.range 0 ++ [] = ([] : List Nat) := rfl
  rw [e, Z62]
  refine Z9o ?_
  rw [SV.toAVL_eq]
  exact h6
 cases e with
 | normal => exact key h3
 | ret => exact key h3
 | _ => exact absurd h3 (by simp [retK])
def Z9y (TY : Nat → Option Ty) : List Ty → List (Option Nat) → List RV → TSt → TSt
 | t :: ts, os, r :: rs, s => Z9y TY ts os.tail rs (match t, ownHd os, r with
  | .slice u, some e, .tmp i => (match preF TY [.nil i e u] s with | some s' => s' | none => s)
  | _, _, _ => s)
 | _, _, _, s => s
def restOf : List (Option Nat) → List SV → List SV
 | _, [] => []
 | os, x :: l => (match ownHd os with | some _ => restOf os.tail l | none => x :: restOf os.tail l)
def consId : Option Nat → SV → List Nat → List Nat
 | some _, .own id _, r => id :: r
 | _, _, r => r
theorem Zhi {o : Option Nat} {x : SV} {r : List Nat} (h : ∀ e id sz, o = some e → x ≠ .own id sz) : consId o x r = r := by
 unfold consId
 split
 ·rename_i e id sz
  exact absurd rfl (h e id sz rfl)
 ·rfl
def ownIds : List (Option Nat) → List SV → List Nat
 | _, [] => []
 | os, x :: l => consId (ownHd os) x (ownIds os.tail l)
def asO (h : List TObj) : (t : Ty) → Option Nat → SV → Option t.den
 | .slice u, some e, x => (match x with
  | .own id sz => (match nth h id with
   | some (.row e' u' xs) => if e' = e ∧ sz = u.size then Zm (.slice u) (.slice u') xs else none
   | _ => none)
  | _ => none)
 | t, _, x => asT [] t x
def Zcs (h : List TObj) : (ts : List Ty) → List (Option Nat) → List SV → Option (denL ts)
 | [], _, l => (match l with | [] => some () | _ :: _ => none)
 | t :: r, os, l => (match l with
  | [] => none
  | x :: l => (match asO h t (ownHd os) x with
   | some a => consD t r a (Zcs h r os.tail l)
   | none => none))
noncomputable def Z4y {β : Type} : List (Option Nat) → List RV → TSt → (TSt → Option β) → Option β
 | os, r :: rs, s, k => (match ownHd os, r with
  | some _, .tmp i => (match tget s.env i with
   | .cut id sz 0 len => (match nth s.heap id with
    | some (.row e t xs) => (match decide (sz = t.size) with
     | true => ck (len ≤ List.length xs) (Z4y os.tail rs ((s.subAll (Zu id) id (.row e t (List.take len xs))).put (some i) (.own id sz)) k)
     | false => none)
    | _ => none)
   | _ => Z4y os.tail rs s k)
  | _, _ => Z4y os.tail rs s k)
 | _, [], s, k => k s
noncomputable def Zih (C : Cx) (res : List Ty) (own : List (Option Nat)) (rs : List RV) (s : TSt) : Option (denL res) :=
 Z4y own rs (Z9y C.TY res own rs s) fun s0 =>
 let s1 := frzFor C.TY s0 (restOf own (Z1o C s0 rs))
 match noDup (ownIds own (Z1o C s1 rs)) with
 | true => Zcs s1.heap res own (Z1o C s1 rs)
 | false => none
noncomputable def retKO (C : Cx) (res : List Ty) (own : List (Option Nat)) (rs : List RV) (e : Exit) (s : TSt) : Option (denL res) := match e with
 | .normal => Zih C res own rs s
 | .ret => Zih C res own rs s
 | _ => none
theorem Zf6 (TY : Nat → Option Ty) : ∀ (ts : List Ty) (os : List (Option Nat)) (rs : List RV) (s : TSt), Imp X s.toSt (Z9y TY ts os rs s).toSt := by
 intro ts
 induction ts with
 | nil => intro os rs s; exact .refl _ _
 | cons t ts ih =>
  intro os rs s
  cases rs with
  | nil => exact .refl _ _
  | cons r rs =>
   unfold Z9y
   refine Imp.trans ?_ (ih _ _ _)
   split
   ·rename_i u e i _
    cases hp : preF TY [.nil i e u] s with
    | none => exact .refl _ _
    | some s' => exact Zga TY _ _ _ hp
   ·exact .refl _ _
theorem Zff {β : Type} (hm : X.m = 0) : ∀ (rs : List RV) (os : List (Option Nat)) (s : TSt) (k : TSt → Option β) (r : β), Z4y os rs s k = some r → ∃ s', k s' = some r ∧ Imp X s.toSt s'.toSt := by
 intro rs
 induction rs with
 | nil =>
  intro os s k r h
  exact ⟨s, by unfold Z4y at h; exact h, .refl _ _⟩
 | cons q rs ih =>
  intro os s k r h
  unfold Z4y at h
  split at h
  ·rename_i i _
   split at h
   ·rename_i id sz len hi
    split at h
    ·rename_i e t xs hq
     split at h
     ·rename_i hd
      obtain rfl := of_decide_eq_true hd
      obtain ⟨hc, h⟩ := Z1f h
      obtain ⟨s', h1, h2⟩ := ih _ _ k r h
      refine ⟨s', h1, Imp.trans (fun a w hr => ?_) h2⟩
      have hq' : s.toSt.heap[id]? = some (.row e t.size (List.map t.cells xs)) := by rw [TSt.heap_get, hq]; rfl
      have h4 := Rep.takeRow hr (i := i) (len := len) (by simp only [TSt.toSt, Zn]; rw [hi]; rfl) hq' (by rw [Z41 (u := t) xs]; exact hc) (by omega)
      refine h4.weak ?_
      rw [TSt.put_ok]
      have h5 := Zy (s := s) (f := Z6 id) (g := Zu id) (id := id) (ob := .row e t (List.take len xs)) (oa := .row e t.size ((List.map t.cells xs).take len)) Z1g (by
       have e2 : (List.map t.cells xs).take len = (List.take len xs).map t.cells := (List.map_take ..).symm
       rw [e2]; exact ObjLe.refl _)
      refine StLe.put (s := ⟨Zt (Z6 id) s.toSt.env, (s.toSt.heap.map (AObj.sub (Z6 id))).set id (.row e t.size ((List.map t.cells xs).take len))⟩) h5 ?_ (some i)
      have hid : id < s.heap.length := by rw [Z7] at hq; exact (List.getElem?_eq_some_iff.1 hq).1
      simp only [SV.toAV]
      rw [Za (e := e) (t := t) (xs := List.take len xs) (by rw [Z7]; simp [TSt.subAll, setH_eq, hid])]
      have e3 : (List.take len xs).length = len := by
       have e4 : (List.take len xs).length = min len (List.length xs) := List.length_take ..
       rw [e4]; omega
      rw [e3]
      exact .refl _
     ·cases h
    ·cases h
   ·exact ih _ _ _ _ h
  ·exact ih _ _ _ _ h
theorem asO_ok {h : List TObj} {K : List Nat} {n : Nat} (hK : K.Nodup) (t : Ty) (o : Option Nat) (x : SV) (y : t.den) (hy : asO h t o x = some y) (hn : ∀ e id sz, o = some e → x = .own id sz → K[n]? = some id) :
  AV.le ((x.toAV h).sub (Z1t K)) (Z7o n t o y) ∧ ((∃ e id sz u, ∃ xs : List u.den, o = some e ∧ x = .own id sz ∧ h[id]? = some (.row e u xs) ∧ ownObj t o y = [.row e u xs]) ∨ (ownObj t o y = [] ∧ ∀ e id sz, o = some e → x ≠ .own id sz)) := by
 have plain : asT [] t x = some y → Z7o n t o y = t.av y → ownObj t o y = [] → (∀ e id sz, o = some e → x ≠ .own id sz) → AV.le ((x.toAV h).sub (Z1t K)) (Z7o n t o y) ∧ ((∃ e id sz u, ∃ xs : List u.den, o = some e ∧ x = .own id sz ∧ h[id]? = some (.row e u xs) ∧ ownObj t o y = [.row e u xs]) ∨ (ownObj t o y = [] ∧ ∀ e id sz, o = some e → x ≠ .own id sz)) := by
  intro h1 h2 h3 h4
  rw [h2]
  exact ⟨Z6x (Lends.none _ h) h1, .inr ⟨h3, h4⟩⟩
 cases o with
 | none =>
  refine plain ?_ ?_ ?_ (fun e id sz he => by cases he)
  ·cases t <;> exact hy
  ·cases t <;> rfl
  ·cases t <;> rfl
 | some e =>
  cases t with
  | slice u =>
   simp only [asO] at hy
   split at hy
   ·rename_i id sz
    split at hy
    ·rename_i e' u' xs hq
     split at hy
     ·rename_i he
      obtain ⟨rfl, rfl⟩ := he
      obtain ⟨hty, hv⟩ := Zc hy
      cases hty
      have hv' : (xs : (Ty.slice u).den) = y := hv
      subst hv'
      rw [Z7] at hq
      refine ⟨?_, .inl ⟨e', id, _, u, xs, rfl, rfl, hq, rfl⟩⟩
      simp only [SV.toAV, AV.sub, Z1t, idx_of hK (hn e' id _ rfl rfl), Z7o]
      rw [Za (by rw [Z7]; exact hq)]
      exact .refl _
     ·cases hy
    ·cases hy
   ·cases hy
  | int k => exact plain hy rfl rfl (fun e' id sz _ hx => by subst hx; simp [asO, asT, Ty.isAgg, asm] at hy)
  | byte => exact plain hy rfl rfl (fun e' id sz _ hx => by subst hx; simp [asO, asT, Ty.isAgg, asm] at hy)
  | bool => exact plain hy rfl rfl (fun e' id sz _ hx => by subst hx; simp [asO, asT, Ty.isAgg, asm] at hy)
  | str => exact plain hy rfl rfl (fun e' id sz _ hx => by subst hx; simp [asO, asT, Ty.isAgg, asm] at hy)
  | one u => exact plain hy rfl rfl (fun e' id sz _ hx => by subst hx; simp [asO, asT, Ty.isAgg] at hy)
  | pair a b => exact plain hy rfl rfl (fun e' id sz _ hx => by subst hx; simp [asO, asT, Ty.isAgg] at hy)
  | ptr u => exact plain hy rfl rfl (fun e' id sz _ hx => by subst hx; simp [asO, asT, Ty.isAgg, asm] at hy)
  | nilS => exact plain hy rfl rfl (fun e' id sz _ hx => by subst hx; simp [asO, asT, Ty.isAgg, asm] at hy)
  | nilI => exact plain hy rfl rfl (fun e' id sz _ hx => by subst hx; simp [asO, asT, Ty.isAgg, asm] at hy)
  | adr => exact plain hy rfl rfl (fun e' id sz _ hx => by subst hx; simp [asO, asT, Ty.isAgg, asm] at hy)
  | mp t => exact plain hy rfl rfl (fun e' id sz _ hx => by subst hx; simp [asO, asT, Ty.isAgg, asm] at hy)
  | mq t => exact plain hy rfl rfl (fun e' id sz _ hx => by subst hx; simp [asO, asT, Ty.isAgg, asm] at hy)
  | fnc f => exact plain hy rfl rfl (fun e' id sz _ hx => by subst hx; simp [asO, asT, Ty.isAgg, asm] at hy)
  | clo f c => exact plain hy rfl rfl (fun e' id sz _ hx => by subst hx; simp [asO, asT, Ty.isAgg, asm] at hy)
  | ref t => exact plain hy rfl rfl (fun e' id sz _ hx => by subst hx; simp [asO, asT, Ty.isAgg, asm] at hy)
theorem resO_ok {h : List TObj} {K : List Nat} (hK : K.Nodup) : ∀ (ts : List Ty) (os : List (Option Nat)) (xs : List SV) (y : denL ts) (n : Nat), Zcs h ts os xs = some y → (∀ (j id : Nat), (ownIds os xs)[j]? = some id → K[n + j]? = some id) →
  AV.leL ((SV.toAVL h xs).map (AV.sub (Z1t K))) (avLO n ts os y) ∧ (∀ (j : Nat) (ob : TObj), (ownObjs ts os y)[j]? = some ob → ∃ id, (ownIds os xs)[j]? = some id ∧ h[id]? = some ob) ∧ (ownIds os xs).length = (ownObjs ts os y).length := by
 intro ts
 induction ts with
 | nil =>
  intro os xs y n hy hn
  cases xs with
  | nil => exact ⟨trivial, fun j ob hob => by simp [ownObjs] at hob, rfl⟩
  | cons x l => cases hy
 | cons t r ih =>
  intro os xs y n hy hn
  cases xs with
  | nil => cases hy
  | cons x l =>
   simp only [Zcs] at hy
   cases hp : asO h t (ownHd os) x with
   | none => rw [hp] at hy; cases hy
   | some p =>
    rw [hp] at hy
    simp only at hy
    cases hq : Zcs h r os.tail l with
    | none => rw [hq] at hy; cases r <;> cases hy
    | some q =>
     rw [hq] at hy
     have h1 := asO_ok (n := n) hK t (ownHd os) x p hp (fun e id sz he hx => hn 0 id (by simp only [ownIds, he, hx, consId]; rfl))
     have hids : (∃ id, ownIds os (x :: l) = id :: ownIds os.tail l ∧ (ownObj t (ownHd os) p).length = 1 ∧ ∀ (j : Nat) (ob : TObj), (ownObj t (ownHd os) p)[j]? = some ob → j = 0 ∧ h[id]? = some ob) ∨ (ownIds os (x :: l) = ownIds os.tail l ∧ ownObj t (ownHd os) p = []) := by
      rcases h1.2 with ⟨e, id, sz, u, zs, he, hx, hid, hob⟩ | ⟨hob, hno⟩
      ·refine .inl ⟨id, by simp only [ownIds, he, hx, consId], by rw [hob]; rfl, fun j ob hj => ?_⟩
       rw [hob] at hj
       cases j with
       | zero => simp at hj; subst hj; exact ⟨rfl, hid⟩
       | succ j => simp at hj
      ·refine .inr ⟨?_, hob⟩
       exact Zhi hno
     have step : ∀ (n' : Nat), n' = n + (ownObj t (ownHd os) p).length → AV.leL ((SV.toAVL h l).map (AV.sub (Z1t K))) (avLO n' r os.tail q) ∧ (∀ (j : Nat) (ob : TObj), (ownObjs r os.tail q)[j]? = some ob → ∃ id, (ownIds os.tail l)[j]? = some id ∧ h[id]? = some ob) ∧ (ownIds os.tail l).length = (ownObjs r os.tail q).length := by
      intro n' hn'
      refine ih os.tail l q n' hq (fun j id hj => ?_)
      rcases hids with ⟨id0, e1, e2, _⟩ | ⟨e1, e2⟩
      ·have := hn (j + 1) id (by rw [e1]; simpa using hj)
       rw [hn', e2, show n + 1 + j = n + (j + 1) by omega]; exact this
      ·rw [hn', e2]; exact hn j id (by rw [e1]; exact hj)
     have comb : ∀ (l2 : List TObj), (∀ (j : Nat) (ob : TObj), l2[j]? = some ob → ∃ id, (ownIds os.tail l)[j]? = some id ∧ h[id]? = some ob) → (ownIds os.tail l).length = l2.length →
       (∀ (j : Nat) (ob : TObj), (ownObj t (ownHd os) p ++ l2)[j]? = some ob → ∃ id, (ownIds os (x :: l))[j]? = some id ∧ h[id]? = some ob) ∧ (ownIds os (x :: l)).length = (ownObj t (ownHd os) p ++ l2).length := by
      intro l2 g1 g2
      rcases hids with ⟨id0, e1, e2, e3⟩ | ⟨e1, e2⟩
      ·refine ⟨fun j ob hj => ?_, by rw [e1, List.length_append, e2, List.length_cons, g2]; omega⟩
       rw [e1]
       cases j with
       | zero =>
        rw [List.getElem?_append_left (by omega)] at hj
        exact ⟨id0, rfl, (e3 0 ob hj).2⟩
       | succ j =>
        rw [List.getElem?_append_right (by omega), e2] at hj
        obtain ⟨id, h5, h6⟩ := g1 j ob (by simpa using hj)
        exact ⟨id, by simpa using h5, h6⟩
      ·rw [e1, e2]; exact ⟨g1, g2⟩
     cases r with
     | nil =>
      cases hy
      obtain ⟨s1, s2, s3⟩ := step _ rfl
      obtain ⟨c1, c2⟩ := comb [] (fun j ob hj => by simp at hj) (by
       cases l with
       | nil => rfl
       | cons _ _ => cases hq)
      rw [List.append_nil] at c1 c2
      exact ⟨⟨h1.1, by cases l with | nil => trivial | cons _ _ => cases hq⟩, c1, c2⟩
     | cons u r =>
      cases hy
      obtain ⟨s1, s2, s3⟩ := step _ rfl
      obtain ⟨c1, c2⟩ := comb _ s2 s3
      exact ⟨⟨h1.1, s1⟩, c1, c2⟩
theorem Zht {h : List TObj} : ∀ (res : List Ty) (os : List (Option Nat)) (l : List SV) (y : denL res), Zcs h res os l = some y → SV.any ∉ l := by
 intro res
 induction res with
 | nil => intro os l y hy; cases l with
  | nil => simp
  | cons x l => cases hy
 | cons t r ih =>
  intro os l y hy
  cases l with
  | nil => simp
  | cons x l =>
   simp only [Zcs] at hy
   cases hp : asO h t (ownHd os) x with
   | none => rw [hp] at hy; cases hy
   | some p =>
    rw [hp] at hy
    simp only at hy
    cases hq : Zcs h r os.tail l with
    | none => rw [hq] at hy; cases r <;> cases hy
    | some q =>
     have h2 := ih _ l q hq
     simp only [List.mem_cons, not_or]
     refine ⟨fun e => ?_, h2⟩
     subst e
     have hno : ∀ o, asO h t o .any = none := fun o => by
      cases o <;> cases t <;> rfl
     rw [hno] at hp; cases hp
theorem FnOKo.of (hC : CxOK P C) {f : Nat} {func : Func} (hE : Enters P f) (hf : P.funcs[f]? = some func) (hb : func.body = some root) {fn : TFo} {rs : List RV} (hrs : func.results.toList = rs.map RV.var) (hn : fn.args.length + (func.ntmps - fn.args.length) = C.n)
  (hL : LsOK P C root L) (hstep : ∀ x, exF C L root [] (retKO C fn.res fn.own rs) (Z35 fn.args x) = fn.run x) (hm0 : C.m = 0 := by rfl) : FnOKo P f fn := by
 refine ⟨hE, fun x r hr => ?_⟩
 have hlen : ∀ (ts : List Ty) (x : denL ts), (avL ts x).length = ts.length := by
  intro ts
  induction ts with
  | nil => exact fun x => rfl
  | cons t q ih =>
   intro x
   cases q with
   | nil => rfl
   | cons u q => simp only [avL, List.length_cons]; rw [ih x.2]; rfl
 refine FSpec.of_WP' hC.T hf hb (fun X hXn hXm hro hrf => ?_)
 have hst : (Z35 fn.args x).toSt = ⟨Z14 0 (avL fn.args x), []⟩ := by
  simp only [Z35, TSt.toSt, Z7c, Zd8, Zba, List.map_nil]
 have h1 := Z84 (β := denL fn.res) hC (X := X) (by rw [hXn, hlen]; exact hn) (hXm.trans hm0.symm) hL root [] (retKO C fn.res fn.own rs) (Z35 fn.args x) r ⟨hro, hrf⟩ rfl (by rw [hstep]; exact hr)
 unfold TW at h1
 rw [hst] at h1
 refine h1.monoR (fun e s hq => ?_)
 obtain ⟨s1, h2, h3, _⟩ := hq
 have key : Zih C fn.res fn.own rs s1 = some r → ∃ s', (∀ a w, Rep X s a w → Rep X s' a w) ∧ Ret C.T func 0 (fun r' h => r' = retAV (avLO 0 fn.res fn.own r) ∧ h = (ownObjs fn.res fn.own r).map (TObj.toObj [])) s' := by
  intro h3
  unfold Zih at h3
  have hno0 := Zf6 (X := X) C.TY fn.res fn.own rs s1
  obtain ⟨s0, h3, hno1⟩ := Zff hXm _ _ _ _ _ h3
  have hno := hno0.trans hno1
  simp only at h3
  have hfz := Z2k (X := X) (C := C) (s := s0) (restOf fn.own (Z1o C s0 rs))
  generalize frzFor C.TY s0 (restOf fn.own (Z1o C s0 rs)) = s2 at h3 hfz
  split at h3
  ·rename_i hnd
   have hK := noDup_ok hnd
   refine ⟨s2.toSt, (h2.trans hno).trans hfz.1, ?_⟩
   unfold Ret
   rw [hrs]
   obtain ⟨c, h4, h5⟩ := Z2f (C := C) s2 rs (Zht _ _ _ _ h3)
   rw [h4]
   obtain ⟨h6, h7, h8⟩ := resO_ok hK _ _ _ _ 0 h3 (fun j id hj => by rw [Nat.zero_add]; exact hj)
   have hlen2 : s2.toSt.heap.length = s2.heap.length := by simp [TSt.toSt]
   have hget : ∀ (j id : Nat), (ownIds fn.own (Z1o C s2 rs))[j]? = some id → ∃ ob, (ownObjs fn.res fn.own r)[j]? = some ob ∧ s2.heap[id]? = some ob := by
    intro j id hj
    have hjl : j < (ownObjs fn.res fn.own r).length := by rw [← h8]; exact (List.getElem?_eq_some_iff.1 hj).1
    obtain ⟨id', e1, e2⟩ := h7 j _ (List.getElem?_eq_getElem hjl)
    rw [hj] at e1; cases e1
    exact ⟨_, List.getElem?_eq_getElem hjl, e2⟩
   refine ⟨h5, ownIds fn.own (Z1o C s2 rs), by simpa using hK, fun i hi => ?_, _, ?_, rfl, ?_⟩
   ·obtain ⟨j, hj⟩ := List.getElem?_of_mem hi
    obtain ⟨ob, _, h9⟩ := hget j i hj
    rw [hlen2]; exact (List.getElem?_eq_some_iff.1 h9).1
   ·have e : List.range 0 ++ ownIds fn.own (Z1o C s2 rs) = ownIds fn.own (Z1o C s2 rs) := rfl
    rw [e, Z62]
    exact Z9o h6
   ·have e : List.range 0 ++ ownIds fn.own (Z1o C s2 rs) = ownIds fn.own (Z1o C s2 rs) := rfl
    rw [e]
    apply List.ext_getElem?
    intro j
    simp only [Z1n, List.getElem?_map]
    cases hj : (ownIds fn.own (Z1o C s2 rs))[j]? with
    | none =>
     rw [List.getElem?_eq_none (by rw [← h8]; exact List.getElem?_eq_none_iff.1 hj)]; rfl
    | some id =>
     obtain ⟨ob, e1, e2⟩ := hget j id hj
     rw [e1]
     simp only [Option.map_some]
     have e3 : s2.toSt.heap[id]? = some (ob.toObj s2.heap) := by simp [TSt.toSt, e2]
     rw [e3, Option.getD_some, Zg3 (ownObjs_row _ _ _ ob (List.mem_of_getElem? e1)) _ _ []]
  ·cases h3
 cases e with
 | normal => exact key h3
 | ret => exact key h3
 | _ => exact absurd h3 (by simp [retKO])
def eqNL : List Nat → List Nat → Bool
 | [], [] => true
 | x :: r, y :: q => (match decide (x = y) with | true => eqNL r q | false => false)
 | [], _ :: _ => false
 | _ :: _, [] => false
def lkO : List ((Nat × List Nat) × TFo) → Nat → List Nat → Option TFo
 | [], _ => fun _ => none
 | ((g, ks), fn) :: r, f => fun ks' => (match decide (g = f), eqNL ks ks' with | true, true => some fn | _, _ => lkO r f ks')
def OsOK (P : Program) (l : List ((Nat × List Nat) × TFo)) : Prop := ∀ f ks fn, lkO l f ks = some fn → FnOKo P f fn
theorem OsOK.nil : OsOK P [] := fun f ks fn h => by cases h
theorem OsOK.cons {l : List ((Nat × List Nat) × TFo)} {g : Nat} {ks : List Nat} {fn : TFo} (h : FnOKo P g fn) (hl : OsOK P l) : OsOK P (((g, ks), fn) :: l) := by
 intro f ks' fn' h'
 unfold lkO at h'
 split at h'
 ·rename_i he _
  cases h'
  rw [← of_decide_eq_true he]; exact h
 ·exact hl f ks' fn' h'
def eqLN : List Nat → List Nat → Bool
 | [], [] => true
 | a :: r, b :: q => (match decide (a = b) with | true => eqLN r q | false => false)
 | _, _ => false
theorem eqLN_ok : ∀ {l m : List Nat}, eqLN l m = true → l = m
 | [], [], _ => rfl
 | a :: r, b :: q, h => by
  unfold eqLN at h
  split at h
  ·rename_i e; rw [of_decide_eq_true e, eqLN_ok h]
  ·cases h
def lkL : List (List Nat × LE) → List Nat → Option LE
 | [], _ => none
 | (q, e) :: r, p => (match eqLN q p with | true => some e | false => lkL r p)
theorem LsOK.nil {k : Bool} : LsOK P C root (lkL []) k := fun p ent b h => by cases h
def Zee (root : Code) (p : List Nat) : Code := match atC root p with
 | some (.loop b) => b
 | _ => .skip
theorem LsOK.cons {k : Bool} (hC : CxOK P C) {l : List (List Nat × LE)} (hl : LsOK P C root (lkL l) k) {q : List Nat} {ent : Ent} (hfit : ent.fits C.m (Zee root q) = true)
  (hstep : ∀ iv x, exF C (lkL l) (Zee root q) (0 :: q) ent.kd (ent.head iv x) = ent.step iv x) : LsOK P C root (lkL ((q, LE.w ent) :: l)) k := by
 intro p ent' c h hat
 unfold lkL at h
 split at h
 ·rename_i he
  obtain rfl := eqLN_ok he
  cases h
  intro b hb
  subst hb
  have e : Zee root q = b := by simp only [Zee, hat]
  rw [e] at hfit hstep
  exact LoopOK.of hC hl hat hfit hstep
 ·exact hl p ent' c h hat
def lkS : List ((Nat × Nat) × SFn) → Nat → Nat → Option SFn
 | [], _, _ => none
 | (p, sf) :: r, f, g => (match decide (p.1 = f) && decide (p.2 = g) with | true => some sf | false => lkS r f g)
def SoOK (P : Program) (f g : Nat) (sf : SFn) : Prop := Enters P f ∧ sf.t.plain = true ∧ ∀ xs ys, sf.run xs = some ys → Z9d P f g sf xs ys
def SsOK (P : Program) (l : List ((Nat × Nat) × SFn)) : Prop := ∀ f g sf, lkS l f g = some sf → SoOK P f g sf
theorem SsOK.nil {P : Program} : SsOK P [] := fun f g sf h => by cases h
theorem SsOK.cons {P : Program} {f g : Nat} {sf : SFn} {l : List ((Nat × Nat) × SFn)} (h : SoOK P f g sf) (k : SsOK P l) : SsOK P (((f, g), sf) :: l) := by
 intro f' g' sf' h'
 simp only [lkS] at h'
 cases hd : decide (f = f') && decide (g = g') with
 | true =>
  rw [hd] at h'
  cases h'
  rw [Bool.and_eq_true, decide_eq_true_eq, decide_eq_true_eq] at hd
  obtain ⟨rfl, rfl⟩ := hd
  exact h
 | false => rw [hd] at h'; exact k f' g' sf' h'
def lkF : List ((Nat × List Nat) × TFn) → Nat → List Nat → Option TFn
 | [], _ => fun _ => none
 | ((g, ks), fn) :: r, f => fun ks' => (match decide (g = f), eqNL ks ks' with | true, true => some fn | _, _ => lkF r f ks')
def FsOK (P : Program) (l : List ((Nat × List Nat) × TFn)) : Prop := ∀ f ks fn, lkF l f ks = some fn → FnOK P f fn
theorem FsOK.nil : FsOK P [] := fun f ks fn h => by cases h
theorem FsOK.cons {l : List ((Nat × List Nat) × TFn)} {g : Nat} {ks : List Nat} {fn : TFn} (h : FnOK P g fn) (hl : FsOK P l) : FsOK P (((g, ks), fn) :: l) := by
 intro f ks' fn' h'
 unfold lkF at h'
 split at h'
 ·rename_i he _
  cases h'
  rw [← of_decide_eq_true he]; exact h
 ·exact hl f ks' fn' h'
def lkP : List (Nat × Nat × Plan) → Nat → Option (Nat × Plan)
 | [], _ => none
 | p :: r, i => if i = p.1 then some p.2 else lkP r i
def lkD : List (Nat × Nat × List (Nat × Bool) × Option (Nat × List (Nat × Bool) × Nat × List (Nat × Bool))) → Nat → Option (Nat × List (Nat × Bool) × Option (Nat × List (Nat × Bool) × Nat × List (Nat × Bool)))
 | [], _ => none
 | (r, d) :: l, k => (match decide (r = k) with | true => some d | false => lkD l k)
def lkT : List (Nat × Ty) → Nat → Option Ty
 | [], _ => none
 | (r, d) :: l, k => (match decide (r = k) with | true => some d | false => lkT l k)
end
end Go.Proofs.YtcphmeggalaplaaDoor.Eng
set_option linter.unusedVariables false
set_option linter.unusedSimpArgs false
namespace Go.Proofs.YtcphmeggalaplaaDoor.Eng
open Go Go.RowKit
def rangeM : Nat → List (Nat × Nat)
 | 0 => []
 | n + 1 => (n, n) :: rangeM n
def prefB : Nat → Nat → List Nat → Bool
 | _, 0, _ => true
 | k, n + 1, x :: r => decide (x = k) && prefB (k + 1) n r
 | _, _ + 1, [] => false
def noAnyB : List SV → Bool
 | [] => true
 | x :: r => (match x with | .any => false | _ => noAnyB r)
def Zig (C : Cx) (fn : TFw) (rs : List RV) (s : TSt) : Option (denL fn.outs.tys) := match Za3 s.heap fn.outs (Z1o C s rs) (rangeM C.m) with
 | some keep => let s1 := freezeAllT C.TY s (Zc0 keep (Za6 s.heap (SV.ids0L (Z1o C s rs) ++ keep)))
  (match Zhw s1.heap.length keep && prefB 0 C.m keep && noAnyB (Z1o C s1 rs) with
  | true => decO fn.outs ⟨Z5m 0 ((Z1o C s1 rs).map (SV.sub (renS keep))), Z2b keep s1.heap⟩
  | false => none)
 | none => none
def retKW (C : Cx) (fn : TFw) (rs : List RV) (e : Exit) (s : TSt) : Option (denL fn.outs.tys) := match e with
 | .normal => Zig C fn rs s
 | .ret => Zig C fn rs s
 | _ => none
section
variable {P : Program} {C : Cx} {X : Ctx} {root : Code} {L : List Nat → Option LE}
theorem prefB_ok : ∀ (n k : Nat) (l : List Nat), prefB k n l = true → l = (List.range' k n) ++ l.drop n
 | 0, k, l, _ => by simp
 | n + 1, k, [], h => by simp [prefB] at h
 | n + 1, k, x :: r, h => by
  simp only [prefB, Bool.and_eq_true, decide_eq_true_eq] at h
  obtain ⟨rfl, h⟩ := h
  have := prefB_ok n (x + 1) r h
  rw [List.range'_succ, List.drop_succ_cons, List.cons_append, ← this]
theorem noAnyB_ok : ∀ (l : List SV), noAnyB l = true → SV.any ∉ l
 | [], _ => by simp
 | x :: r, h => by
  unfold noAnyB at h
  split at h
  ·cases h
  ·rename_i hx
   simp only [List.mem_cons, not_or]
   exact ⟨fun e => hx e.symm, noAnyB_ok r h⟩
theorem retL_av (h : List TObj) : ∀ l : List SV, (retL l).toAV h = retAV (l.map (SV.toAV h))
 | [] => rfl
 | [x] => rfl
 | x :: y :: r => by simp only [retL, SV.toAV, SV.toAVL_eq, List.map_cons, retAV]
theorem Says.one {keep : List Nat} {h h0 : List AObj} {args args' : List AV} (hs : Says keep h args h0 args') : Says keep h [retAV args] h0 [retAV args'] := by
 obtain ⟨h1, h2, h3⟩ := hs
 refine ⟨rfl, h2, fun σ F w hr => ?_⟩
 obtain ⟨h4, h5⟩ := h3 σ F w hr
 refine ⟨h4, fun j x x' v hx hx' hv => ?_⟩
 have e : j = 0 := by have := (List.getElem?_eq_some_iff.1 hx).1; simpa using this
 subst e
 simp only [List.getElem?_cons_zero, Option.some.injEq] at hx hx'
 subst hx hx'
 match args, args', h1 with
 | [], [], _ =>
  obtain ⟨vs, rfl, hl, hv⟩ := RepV.tupv (show RepV σ F w (.tup []) v from hv)
  exact .tup _ vs hl (fun j x u hx => by simp at hx)
 | [x], [x'], _ => exact h5 0 x x' v rfl rfl hv
 | x :: y :: r, x' :: y' :: r', h1 =>
  obtain ⟨vs, rfl, hl, hv⟩ := RepV.tupv (show RepV σ F w (.tup (x :: y :: r)) v from hv)
  refine .tup _ vs (by rw [← hl]; exact h1) (fun j z u hz hu => ?_)
  have hj : j < (x :: y :: r).length := by rw [← h1]; exact (List.getElem?_eq_some_iff.1 hz).1
  exact h5 j _ z u (List.getElem?_eq_getElem hj) hz (hv j _ u (List.getElem?_eq_getElem hj) hu)
theorem Z7l (s : TSt) : ∀ rs : List RV, (Z1o C s rs).length = rs.length
 | [] => rfl
 | r :: l => by simp [Z1o, Z7l s l]
theorem FnOKw.of (hC : CxOK P C) {f : Nat} {func : Func} (hE : Enters P f) (hf : P.funcs[f]? = some func) (hb : func.body = some root) {fn : TFw} {rs : List RV} (hrs : func.results.toList = rs.map RV.var) (hn : fn.ins.slots.length + (func.ntmps - fn.ins.slots.length) = C.n)
  (hL : LsOK P C root L) (hm : ∀ x, (encS fn.ins x []).heap.length = C.m) (hk : fn.ins.slots.map (·.1) = List.range fn.ins.slots.length) (hko : fn.outs.slots.map (·.1) = List.range rs.length) (hnr : fn.nr = rs.length)
  (hstep : ∀ x, exF C L root [] (retKW C fn rs) (encS fn.ins x []) = fn.run x) : FnOKw P f fn := by
 refine ⟨hE, hk, fun x r hr => ?_⟩
 have hlen0 : (encS fn.ins x []).toSt.heap.length = C.m := by rw [← hm x]; simp [TSt.toSt]
 have hal : ((Z2n (encS fn.ins x []).env 0 fn.ins.slots.length).map (SV.toAV (encS fn.ins x []).heap)).length = fn.ins.slots.length := by simp [Z6g]
 refine FSpec.of_WPw hC.T hf hb (fun X hXn hXm hro hrf => ?_)
 rw [hal] at hXn
 rw [hlen0] at hXm ⊢
 have h1 := Z84 (β := denL fn.outs.tys) hC (X := X) (hXn.trans hn) hXm hL root [] (retKW C fn rs) (encS fn.ins x []) r ⟨hro, hrf⟩ rfl (by rw [hstep]; exact hr)
 unfold TW at h1
 have hle : St.le ⟨Z14 0 ((Z2n (encS fn.ins x []).env 0 fn.ins.slots.length).map (SV.toAV (encS fn.ins x []).heap)), (encS fn.ins x []).toSt.heap⟩ (encS fn.ins x []).toSt := by
  refine ⟨rfl, fun i => ?_⟩
  rw [envGet_enum, if_pos (Nat.zero_le _), Nat.sub_zero]
  simp only [TSt.toSt, Zn]
  rw [List.getElem?_map, Z6h]
  by_cases hi : i < fn.ins.slots.length
  ·rw [if_pos hi, Option.map_some, Option.getD_some, Nat.zero_add]; exact .refl _
  ·rw [if_neg hi, Option.map_none, Option.getD_none]
   have : tget (encS fn.ins x []).env i = .any := tget_not _ i (fun hmem => by
    rw [Z7d, List.append_nil] at hmem
    have h2 := encSlots_keys _ _ i hmem
    have h3 : i ∈ List.range fn.ins.slots.length := by rw [← hk]; exact h2
    exact hi (List.mem_range.1 h3))
   rw [this]; exact .refl _
 refine WP.le hle (h1.monoR (fun e s hq => ?_))
 obtain ⟨s1, h2, h3, _⟩ := hq
 have key : Zig C fn rs s1 = some r → ∃ s', (∀ a w, Rep X s a w → Rep X s' a w) ∧ RetW C.T func C.m (fun ret h => ret = (retL (Z2n (encS fn.outs r []).env 0 fn.nr)).toAV (encS fn.outs r []).heap ∧ h = (encS fn.outs r []).toSt.heap) s' := by
  intro h3
  unfold Zig at h3
  split at h3
  ·rename_i keep hkeep
   obtain ⟨hkl, hnd⟩ := Z90 hkeep
   have hfz := Z1a (X := X) C.TY (Zc0 keep (Za6 s1.heap (SV.ids0L (Z1o C s1 rs) ++ keep))) s1
   generalize freezeAllT C.TY s1 (Zc0 keep (Za6 s1.heap (SV.ids0L (Z1o C s1 rs) ++ keep))) = s2 at h3 hfz
   simp only at h3
   split at h3
   ·rename_i hch
    simp only [Bool.and_eq_true] at hch
    obtain ⟨⟨hlt, hpre⟩, hna⟩ := hch
    have hin := Zau hlt
    have hke : keep = List.range C.m ++ keep.drop C.m := by
     have := prefB_ok _ _ _ hpre
     rwa [← List.range_eq_range'] at this
    refine ⟨s2.toSt, h2.trans hfz.1, ?_⟩
    unfold RetW
    rw [hrs]
    obtain ⟨c, h4, h5⟩ := Z2f (C := C) s2 rs (noAnyB_ok _ hna)
    rw [h4]
    refine ⟨h5, keep.drop C.m, by rw [← hke]; exact hnd, fun i hi => by simpa [TSt.toSt] using hin i (List.mem_of_mem_drop hi), _, _, ⟨rfl, rfl⟩, ?_⟩
    rw [← hke]
    have hs := Zed (H := s2.heap) h3 hkl (fun j hj => by rw [hko, List.mem_range, ← Z7l (C := C) s2 rs]; exact hj) hnd hin
    rw [Z7l] at hs
    have ho := hs.one
    rw [SV.toAVL_eq, retL_av, hnr]
    exact ho
   ·cases h3
  ·cases h3
 cases e with
 | normal => exact key h3
 | ret => exact key h3
 | _ => exact absurd h3 (by simp [retKW])
def lkW : List ((Nat × List Nat) × TFw) → Nat → List Nat → Option TFw
 | [], _ => fun _ => none
 | ((g, ks), fn) :: r, f => fun ks' => (match decide (g = f), eqNL ks ks' with | true, true => some fn | _, _ => lkW r f ks')
def WsOK (P : Program) (l : List ((Nat × List Nat) × TFw)) : Prop := ∀ f ks fn, lkW l f ks = some fn → FnOKw P f fn
theorem WsOK.nil : WsOK P [] := fun f ks fn h => by cases h
theorem WsOK.cons {l : List ((Nat × List Nat) × TFw)} {g : Nat} {ks : List Nat} {fn : TFw} (h : FnOKw P g fn) (hl : WsOK P l) : WsOK P (((g, ks), fn) :: l) := by
 intro f ks' fn' h'
 unfold lkW at h'
 split at h'
 ·rename_i he _
  cases h'
  rw [← of_decide_eq_true he]; exact h
 ·exact hl f ks' fn' h'
end
end Go.Proofs.YtcphmeggalaplaaDoor.Eng
set_option linter.unusedVariables false
set_option linter.unusedSimpArgs false
namespace Go.Proofs.YtcphmeggalaplaaDoor.Eng
open Go Go.RowKit
theorem RowRep.kind {q : Blk} {F : Nat → Prop} {w : World} {e sz : Nat} {es : List (List AV)} (h : RowRep q F w e sz es) {g : Nat} (hg : q.has g) : ∃ o, w.heap[g]? = some o ∧ ∀ x, o ≠ .loop x := by
 rcases h with ⟨rfl, _⟩ | ⟨g', b, c, cur, rfl, _, _, h, _⟩
 ·exact hg.elim
 ·have e : g = g' := hg
  subst e
  exact ⟨_, h, fun x e => by cases e⟩
theorem HRep.noloop {σ : Nat → Option Blk} {F : Nat → Prop} {w : World} {h : List AObj} (hr : HRep σ F w h) {id g : Nat} (ho : hasB σ id g) {x} : w.heap[g]? ≠ some (.loop x) := by
 intro hx
 have key : (∃ o, w.heap[g]? = some o ∧ ∀ x, o ≠ .loop x) → False := fun ⟨o, h1, h2⟩ => by rw [hx] at h1; cases h1; exact h2 _ rfl
 obtain ⟨q, h1, h2⟩ := ho
 have hid : id < h.length := Nat.lt_of_not_le fun hge => by rw [hr.out id hge] at h1; cases h1
 have hob := hr.obj id _ (List.getElem?_eq_getElem hid)
 revert hob
 cases h[id] with
 | dead => intro hob; rw [show σ id = none from hob] at h1; cases h1
 | box e cs => rintro ⟨g', vs, h3, h4, _⟩; rw [h1] at h3; cases h3; cases (show g = g' from h2); exact key ⟨_, h4, fun x e => by cases e⟩
 | row e sz es =>
  rintro (⟨h3, _⟩ | ⟨g', b, c, cur, h3, _, _, h4, _⟩)
  ·rw [h1] at h3; cases h3; exact h2
  ·rw [h1] at h3; cases h3; cases (show g = g' from h2); exact key ⟨_, h4, fun x e => by cases e⟩
 | mapo es => rintro ⟨g', arr, clock, h3, h4, _⟩; rw [h1] at h3; cases h3; cases (show g = g' from h2); exact key ⟨_, h4, fun x e => by cases e⟩
 | iter last es => rintro ⟨g', om, since, seen, c0, h3, h4, _⟩; rw [h1] at h3; cases h3; cases (show g = g' from h2); exact key ⟨_, h4, fun x e => by cases e⟩
 | tree e ei sz pend es =>
  rintro ⟨R, B, V, h3, h4⟩
  rw [h1] at h3; cases h3
  rcases h2 with h2 | ⟨k, h2⟩
  ·exact key (h4.root.kind h2)
  ·rcases Nat.lt_or_ge k es.length with hk | hk
   ·exact key ((h4.row k _ (List.getElem?_eq_getElem hk)).kind h2)
   ·rw [h4.out k hk] at h2; exact h2
structure Stp (l m : Nat) (σ : Nat → Option Blk) (F : Nat → Prop) (w : World) (σ' : Nat → Option Blk) (F' : Nat → Prop) (w' : World) : Prop where
 keep : Keep (fun g => ownB σ g ∨ g = l) w w'
 own : ∀ id g, hasB σ' id g → ownB σ g ∨ w.heap.size ≤ g
 fnew : ∀ b, F' b → F b ∨ ownB σ b ∨ w.heap.size ≤ b
 stab : ∀ id, id < m → σ' id = σ id ∨ σ' id = none
section
variable {P : Program} {X : Ctx} {l m : Nat} {σ σ' σ'' : Nat → Option Blk} {F F' F'' : Nat → Prop} {s s' : St} {a a' : Act} {w w' w'' : World} {h h' : List AObj}
theorem Stp.trans (p : Stp l m σ F w σ' F' w') (q : Stp l m σ' F' w' σ'' F'' w'') : Stp l m σ F w σ'' F'' w'' := by
 refine ⟨p.keep.trans q.keep (fun g hg hn => ⟨hn, fun hh => ?_⟩), fun id g hh => ?_, fun b hb => ?_, fun id hid => ?_⟩
 ·rcases hh with ⟨i, hh⟩ | hh
  ·rcases p.own i g hh with h1 | h1
   ·exact hn (.inl h1)
   ·omega
  ·exact hn (.inr hh)
 ·rcases q.own id g hh with ⟨i, h1⟩ | h1
  ·exact p.own i g h1
  ·have := p.keep.size; exact .inr (by omega)
 ·rcases q.fnew b hb with h1 | ⟨i, h1⟩ | h1
  ·exact p.fnew b h1
  ·exact .inr (p.own i b h1)
  ·have := p.keep.size; exact .inr (.inr (by omega))
 ·rcases q.stab id hid with h1 | h1
  ·rw [h1]; exact p.stab id hid
  ·exact .inr h1
theorem Keep.putObj (w : World) (l : Nat) (o : Obj) : Keep (fun g => g = l) w (w.putObj l o) := ⟨rfl, rfl, rfl, by simp, fun b _ hb => World.putObj_heap_other hb⟩
theorem Stp.putObj (o : Obj) : Stp l m σ F w σ F (w.putObj l o) :=
 ⟨⟨rfl, rfl, rfl, by simp, fun b _ hb => World.putObj_heap_other (fun e => hb (.inr e))⟩, fun id g hh => .inl ⟨id, hh⟩, fun b hb => .inl hb, fun id _ => .inl rfl⟩
theorem RepAt.stp {n : Nat} {ro : Option Nat} {rf : Bool} (hr : RepAt ⟨n, w, ownB σ, F, m, σ, ro, rf⟩ σ' F' s a w') : Stp l m σ F w σ' F' w' :=
 ⟨⟨hr.keep.os, hr.keep.tape, hr.keep.output, hr.keep.size, fun b hb hn => hr.keep.block b hb (fun hh => hn (.inl hh))⟩, hr.own, hr.fnew, hr.stab⟩
theorem HRep.putObj (hr : HRep σ F w h) {r : Loop} (hl : w.heap[l]? = some (.loop r)) (hF : ¬ F l) (o : Obj) : HRep σ F (w.putObj l o) h := by
 have hFb : ∀ b, F b → (w.putObj l o).heap[b]? = w.heap[b]? := fun b hb => World.putObj_heap_other (fun e => hF (e ▸ hb))
 refine ⟨fun id ob ho => ?_, hr.out, hr.inj, fun id g hg => ?_, fun b hb => by rw [World.putObj_size]; exact hr.flt b hb, hr.lay.mono (fun _ h => h) hFb⟩
 ·rw [← AObj.sub_id ob]
  exact (hr.obj id ob ho).move (fun _ h => h) (fun h => h) (fun x y h => h.mono (fun _ h => h) hFb) (fun b hb => ⟨hb, hFb b hb⟩)
   (fun g hg => World.putObj_heap_other (fun e => hr.noloop hg (e ▸ hl))) (fun x y h => by rw [AV.sub_id]; exact h.mono (fun _ h => h) hFb)
 ·rw [World.putObj_size]; exact hr.lt id g hg
theorem RepAt.putObj (hr : RepAt X σ F s a w) {r : Loop} (hl : w.heap[l]? = some (.loop r)) (hF : ¬ F l) (h0 : X.w0.heap.size ≤ l) (o : Obj) : RepAt X σ F s a (w.putObj l o) := by
 have hFb : ∀ b, F b → (w.putObj l o).heap[b]? = w.heap[b]? := fun b hb => World.putObj_heap_other (fun e => hF (e ▸ hb))
 refine ⟨hr.defers.keep fun D hD hn => ⟨World.putObj_heap_other (fun e => by rw [e, hl] at hD; cases hD), hn⟩, hr.size, fun i => (hr.env i).mono (fun _ h => h) hFb, hr.heap.putObj hl hF o,
  hr.keep.trans (Keep.putObj w l o) (fun g hg hn => ⟨hn, fun e => by omega⟩), hr.own, hr.fnew, hr.stab, hr.hm⟩
def AObj.isD : AObj → Bool
 | .dead => true
 | _ => false
theorem RepAt.rounded (hr : RepAt X σ F s a w) (hs : Stp l s.heap.length σ F w σ' F' w') (hh : HRep σ' F' w' h') (hd : h'.map AObj.isD = s.heap.map AObj.isD)
  {r : Loop} (hl : w.heap[l]? = some (.loop r)) (hF : ¬ F l) (h0 : X.w0.heap.size ≤ l) : RepAt X σ' (fun b => F b ∨ F' b) ⟨s.env, h'⟩ a w' ∧ ¬ (F l ∨ F' l) := by
 have hlen : h'.length = s.heap.length := by have := congrArg List.length hd; simpa using this
 have hnl : ¬ ownB σ l := fun ⟨i, h⟩ => hr.heap.noloop h hl
 have hll : l < w.heap.size := Z19 hl
 have hF'l : ¬ F' l := fun h => by
  rcases hs.fnew l h with h | h | h
  ·exact hF h
  ·exact hnl h
  ·omega
 have hFb : ∀ b, F b → w'.heap[b]? = w.heap[b]? := fun b hb => hs.keep.block b (hr.heap.flt b hb) (fun h => by
  rcases h with ⟨i, h⟩ | h
  ·exact (hr.heap.lt _ _ h).2 hb
  ·exact hF (h ▸ hb))
 have hσ : ∀ id k, σ id = some k → σ' id = some k := fun id k h => by
  have hid : id < s.heap.length := Nat.lt_of_not_le fun hge => by rw [hr.heap.out id hge] at h; cases h
  rcases hs.stab id hid with h1 | h1
  ·rw [h1, h]
  ·exfalso
   have hid' : id < h'.length := by omega
   have hob := hh.obj id _ (List.getElem?_eq_getElem hid')
   have hne : AObj.isD h'[id] = false := by
    have e := congrArg (fun l => l[id]?) hd
    simp only [List.getElem?_map, List.getElem?_eq_getElem hid', List.getElem?_eq_getElem hid, Option.map_some, Option.some.injEq] at e
    rw [e]
    have hob2 := hr.heap.obj id _ (List.getElem?_eq_getElem hid)
    revert hob2
    cases s.heap[id] with
    | dead => intro hob2; rw [show σ id = none from hob2] at h; cases h
    | _ => exact fun _ => rfl
   revert hob hne
   cases h'[id] with
   | dead => exact fun _ h => by cases h
   | box e cs => rintro ⟨g', vs, h3, _⟩ _; rw [h1] at h3; cases h3
   | row e sz es => rintro (⟨h3, _⟩ | ⟨g', b, c, cur, h3, _⟩) _ <;> (rw [h1] at h3; cases h3)
   | mapo es => rintro ⟨g', arr, clock, h3, _⟩ _; rw [h1] at h3; cases h3
   | iter last es => rintro ⟨g', om, since, seen, c0, h3, _⟩ _; rw [h1] at h3; cases h3
   | tree e ei sz pend es => rintro ⟨R, B, V, h3, _⟩ _; rw [h1] at h3; cases h3
 have hRF : ∀ x y, RepF F' w' x y → RepF (fun b => F b ∨ F' b) w' x y := fun x y h => h.mono (fun _ h => .inr h) (fun _ _ => rfl)
 refine ⟨⟨hr.defers.keep fun D hD hn => ⟨hs.keep.block D (Z19 hD) (fun hg => ?_), fun h => h.elim hn (fun h => ?_)⟩, hr.size, fun i => ((hr.env i).mono (fun _ h => .inl h) hFb).grow hσ,
  ⟨fun id ob ho => ?_, fun id hid => hh.out id hid, hh.inj, fun id g h => ?_, fun b hb => ?_, hr.heap.lay.mono (fun _ h => .inl h) hFb⟩, ?_, fun id g h => ?_, fun b hb => ?_, fun id hid => ?_, ?_⟩, fun h => h.elim hF hF'l⟩
 ·rcases hg with ⟨i, h⟩ | h
  ·exact hr.heap.nodef h hD
  ·rw [h, hl] at hD; cases hD
 ·rcases hs.fnew D h with h | ⟨i, h⟩ | h
  ·exact hn h
  ·exact hr.heap.nodef h hD
  ·have := Z19 hD; omega
 ·rw [← AObj.sub_id ob]
  exact (hh.obj id ob ho).move (fun _ h => h) (fun h => h) hRF (fun b hb => ⟨.inr hb, rfl⟩) (fun g hg => rfl) (fun x y h => by rw [AV.sub_id]; exact h.mono (fun _ h => .inr h) (fun _ _ => rfl))
 ·have h5 := hh.lt _ _ h
  refine ⟨h5.1, fun hb => hb.elim (fun hb => ?_) h5.2⟩
  rcases hs.own _ _ h with ⟨i, h6⟩ | h6
  ·exact (hr.heap.lt _ _ h6).2 hb
  ·have := hr.heap.flt _ hb; omega
 ·rcases hb with hb | hb
  ·exact Nat.lt_of_lt_of_le (hr.heap.flt b hb) hs.keep.size
  ·exact hh.flt b hb
 ·refine hr.keep.trans hs.keep (fun g hg hn => ⟨hn, fun h => ?_⟩)
  rcases h with ⟨i, h⟩ | h
  ·rcases hr.own _ _ h with h1 | h1
   ·exact hn h1
   ·omega
  ·omega
 ·rcases hs.own _ _ h with ⟨i, h1⟩ | h1
  ·exact hr.own _ _ h1
  ·have := hr.keep.size; exact .inr (by omega)
 ·rcases hb with hb | hb
  ·exact hr.fnew b hb
  ·rcases hs.fnew b hb with h1 | ⟨i, h1⟩ | h1
   ·exact hr.fnew b h1
   ·exact .inr (hr.own _ _ h1)
   ·have := hr.keep.size; exact .inr (.inr (by omega))
 ·have hid' : id < s.heap.length := Nat.lt_of_lt_of_le hid hr.hm
  rcases hs.stab id hid' with h1 | h1
  ·rw [h1]; exact hr.stab id hid
  ·exact .inr h1
 ·show X.m ≤ h'.length
  rw [hlen]; exact hr.hm
end
end Go.Proofs.YtcphmeggalaplaaDoor.Eng
set_option linter.unusedVariables false
set_option linter.unusedSimpArgs false
namespace Go.Proofs.YtcphmeggalaplaaDoor.Eng
open Go Go.RowKit
def BackIter (P : Program) (g sz : Nat) (el : List AV → AV) : Prop :=
 Enters P g ∧ ∀ (es : List (List AV)) (l : Nat) (J : Nat → (Nat → Prop) → World → Prop) (Jx : World → Prop) (vc : Value) (F0 : Nat → Prop) (W : World), (es.length : Int) ≤ 9223372036854775807 →
  (∀ k F W, J k F W → RepF F W (.rp [.ro sz es]) vc ∧ HRep (fun _ => none) F W []) →
  (∀ W, Jx W → ∃ F, RepF F W (.rp [.ro sz es]) vc ∧ HRep (fun _ => none) F W []) →
  (∀ k F W u cs, J (k + 1) F W → es[k]? = some cs → RepV (fun _ => none) F W (el cs) u → YieldAt (fnc none) 0 P l #[.int .i64 (k : Int), u] W fun e W' => (e = .returned (.bool true) ∧ ∃ F', J k F' W') ∨ (e = .returned (.bool false) ∧ Jx W')) →
  J es.length F0 W → CallsIn (fnc none) 0 P g #[.func (.yield l) #[] #[], vc] W fun e W' => ∃ v, e = .returned v ∧ ((∃ F', J 0 F' W') ∨ Jx W')
section
variable {P : Program} {X : Ctx} {s : St} {Q : Exit → St → Prop}
theorem RepV.rpF {σ : Nat → Option Blk} {F : Nat → Prop} {w : World} {cs : List AV} {v : Value} (h : RepV σ F w (.rp cs) v) : RepF F w (.rp cs) v := by
 cases h with
 | f _ _ h => exact h
theorem RepV.noσ {F : Nat → Prop} {σ : Nat → Option Blk} {w : World} {x : AV} {v : Value} (h : RepV (fun _ => none) F w x v) : RepV σ F w x v := h.grow fun id k h => by cases h
theorem WP.rangeB {g : Nat} {el : List AV → AV} {it pi pv : Nat} {assign body : Code} {sz : Nat} {es : List (List AV)} (hro : X.ro = none) (hrf : X.rf = true) (hB : BackIter P g sz el) (hbig : (es.length : Int) ≤ 9223372036854775807) (hit : envGet s.env it = .fn g [.rp [.ro sz es]]) (hpi : pi < X.n) (hpv : pv < X.n)
  (I : Nat → List AObj → Prop) (Ix : List AObj → Prop) (hI : ∀ k h, I k h → h.map AObj.isD = s.heap.map AObj.isD) (hIx : ∀ h, Ix h → h.map AObj.isD = s.heap.map AObj.isD) (h0 : I es.length s.heap)
  (round : ∀ (k : Nat) (h : List AObj) (cs : List AV), I (k + 1) h → es[k]? = some cs → ∀ X1 : Ctx, X1.n = X.n → X1.m = s.heap.length → X1.ro.isSome = true → X1.rf = false →
   WP P X1 assign (Zeq (fun s1 => ∀ X2 : Ctx, X2.n = X.n → X2.m = s.heap.length → X2.ro.isSome = true → X2.rf = false → WP P X2 body (fun e s2 => match e with
    | .normal => I k s2.heap
    | .ret => Ix s2.heap
    | _ => False) s1) (fun _ _ => False)) ⟨(pv, el cs) :: (pi, .v (.int .i64 (k : Int))) :: s.env, h⟩)
  (hQ : ∀ h, I 0 h → Q .normal ⟨s.env, h⟩) (hQx : ∀ h, Ix h → Q .ret ⟨s.env, h⟩) : WP P X (.rangeFunc (.tmp it) #[pi, pv] assign body) Q s := by
 rintro a w ⟨σ, F, hr⟩
 obtain ⟨hE, hB⟩ := hB
 rw [hro]
 have hitv := hr.env it
 rw [hit] at hitv
 obtain ⟨us, hfv, hul, hur⟩ := RepV.fnv hitv
 match us, hul with
 | [vc], _ => ?_
 refine wpIn_rangeFunc ?_
 intro fn hfn
 obtain ⟨rec, hrec⟩ : ∃ rec : LoopState → Option Code → Loop, rec = fun st pe => { state := st, pending := pe, fn, tmps := a.tmps, params := #[pi, pv], assign, body, defers := w.heap.size } := ⟨_, rfl⟩
 obtain ⟨W1, hW1⟩ : ∃ W1, (w.alloc (.deferred (some []))).alloc (.loop (rec .ready none)) = W1 := ⟨_, rfl⟩
 have hL1 : W1.heap[w.heap.size + 1]? = some (.loop (rec .ready none)) := by
  rw [← hW1]; have := World.alloc_heap_new (w.alloc (.deferred (some []))) (.loop (rec .ready none)); rwa [World.size_alloc] at this
 have hK1 : W1.heap[w.heap.size]? = some (.deferred (some [])) := by
  rw [← hW1]; exact (Below.heap_alloc _ _ _ (by simp)).trans (World.alloc_heap_new w _)
 obtain ⟨a1, ha1⟩ : ∃ a1 : Act, a1 = { a with defers := { target := .collected w.heap.size, args := #[] } :: a.defers } := ⟨_, rfl⟩
 have hx1 : RepAt X σ F s a W1 := by rw [← hW1]; exact (hr.ext (Ext.alloc _ _)).ext (Ext.alloc _ _)
 have hFw : ∀ b, F b → b < w.heap.size := hr.heap.flt
 have hr1 : RepAt X σ F s a1 W1 := by
  refine ⟨?_, by rw [ha1]; exact hx1.size, fun i => by rw [ha1]; exact hx1.env i, hx1.heap, hx1.keep, hx1.own, hx1.fnew, hx1.stab, hx1.hm⟩
  have hd := hx1.defers
  have hd0 := hr.defers
  rw [hrf] at hd hd0 ⊢
  rw [ha1]
  refine ⟨fun d hd' => ?_, List.nodup_cons.2 ⟨fun hm => ?_, hd.2⟩⟩
  ·rcases List.mem_cons.1 hd' with rfl | hd'
   ·exact ⟨_, rfl, hK1, (fun h => by have := hFw _ h; omega), hr.keep.size⟩
   ·exact hd.1 d hd'
  ·obtain ⟨D, e, h2, _⟩ := hd0.1 _ hm
   injection e with e
   injection e with e
   have := Z19 h2
   omega
 have hl0 : X.w0.heap.size ≤ w.heap.size + 1 := Nat.le_succ_of_le hr.keep.size
 have hrow : ∀ (σ' : Nat → Option Blk) (F' : Nat → Prop) (W : World) (h : List AObj), RepAt X σ' F' ⟨s.env, h⟩ a1 W → RepF F' W (.rp [.ro sz es]) vc ∧ HRep (fun _ => none) F' W [] := by
  intro σ' F' W h h1
  refine ⟨?_, ⟨fun id o ho => by simp at ho, fun _ _ => rfl, fun id id' g h1 _ => (by obtain ⟨q, h, _⟩ := h1; cases h), fun id g h => (by obtain ⟨q, h, _⟩ := h; cases h), h1.heap.flt, h1.heap.lay⟩⟩
  have h2 := h1.env it
  rw [show envGet (St.mk s.env h).env it = .fn g [.rp [.ro sz es]] from hit, show a1.tmps.getD it undef = .func (.func g) #[] #[vc] by rw [ha1]; exact hfv] at h2
  obtain ⟨us', h3, h4, h5⟩ := RepV.fnv h2
  match us', h4 with
  | [vc'], _ =>
   simp at h3
   subst h3
   exact RepV.rpF (h5 0 _ vc rfl rfl)
 refine ⟨w.heap.size + 1, [{ target := .collected w.heap.size, args := #[] }], W1, { target := .fn (.func g) #[vc], args := #[.func (.yield (w.heap.size + 1)) #[] #[]] }, W1, g,
  #[.func (.yield (w.heap.size + 1)) #[] #[], vc], W1, ?_, ?_, ?_, ?_, (fun h => by simp [fnc, Fence.wide] at h), ?_⟩
 ·rw [← hW1, hrec]; exact run_enterLoop_outer _ _ _ _ _
 ·have hg : a.eval (.tmp it) = .func (.func g) #[] #[vc] := hfv
  simp only [resolve, hg]
  simp [go_sem]
 ·intro f' hf'; trivial
 ·simp [invoke, go_sem, hE _ _]
 ·let J : Nat → (Nat → Prop) → World → Prop := fun k F W => ∃ σ h, RepAt X σ F ⟨s.env, h⟩ a1 W ∧ I k h ∧ W.heap[w.heap.size + 1]? = some (.loop (rec .ready none)) ∧ ¬ F (w.heap.size + 1)
  let Jx : World → Prop := fun W => ∃ σ F h, RepAt X σ F ⟨s.env, h⟩ a1 W ∧ Ix h ∧ W.heap[w.heap.size + 1]? = some (.loop (rec .done (some .ret))) ∧ ¬ F (w.heap.size + 1)
  refine (hB es (w.heap.size + 1) J Jx vc F W1 hbig ?_ ?_ ?_ ⟨σ, s.heap, hr1, h0, hL1, fun h => by have := hFw _ h; omega⟩).mono ?_
  ·rintro k F' W ⟨σ', h, h1, _, _, _⟩
   exact hrow σ' F' W h h1
  ·rintro W ⟨σ', F', h, h1, _, _, _⟩
   exact ⟨F', hrow σ' F' W h h1⟩
  ·
   rintro k F' W u cs ⟨σ', h, h1, hIk, hl, hnF⟩ hcs hu
   have hlt : w.heap.size + 1 < W.heap.size := Z19 hl
   have hy := run_yield (P := P) (args := #[.int .i64 (k : Int), u]) hl (by rw [hrec]; rfl)
   rw [hrec] at hy
   refine ⟨fn, _, assign, body, hy, roundIn_of_wpIn hfn ?_⟩
   have hdk := hI _ _ hIk
   have hlen : h.length = s.heap.length := by have := congrArg List.length hdk; simpa using this
   let X1 : Ctx := ⟨X.n, W, ownB σ', F', s.heap.length, σ', some (w.heap.size + 1), false⟩
   have hsz : a.tmps.size = X.n := hr.size
   have hst : RepAt X1 σ' F' ⟨(pv, el cs) :: (pi, .v (.int .i64 (k : Int))) :: s.env, h⟩ { tmps := (a.tmps.setIfInBounds pi (.int .i64 (k : Int))).setIfInBounds pv u, defers := [] } W := by
    refine ⟨rfl, by simp [hsz, X1], fun i => ?_, h1.heap, Keep.refl _ _, fun id g h => .inl ⟨id, h⟩, fun b hb => .inl hb, fun id _ => .inl rfl, Nat.le_of_eq hlen.symm⟩
    simp only [envGet]
    rw [getD_set _ _ _ _ _ (by simp [hsz]; exact hpv), getD_set _ _ _ _ _ (by rw [hsz]; exact hpi)]
    split
    ·exact hu.noσ
    ·split
     ·exact .f _ _ (.v _)
     ·have := h1.env i
      rwa [ha1] at this
   have hw := round k h cs hIk hcs X1 rfl rfl rfl rfl _ W ⟨σ', F', hst⟩
   have hw' : assign.wpIn ((fnc none).inRound (w.heap.size + 1)) 0 P (lift X1 (Zeq (fun s1 => ∀ X2 : Ctx, X2.n = X.n → X2.m = s.heap.length → X2.ro.isSome = true → X2.rf = false → WP P X2 body (fun e s2 => match e with
    | .normal => I k s2.heap
    | .ret => Ix s2.heap
    | _ => False) s1) (fun _ _ => False))) { tmps := (a.tmps.setIfInBounds pi (.int .i64 (k : Int))).setIfInBounds pv u, defers := [] } W := hw
   have htm : (#[pi, pv].zip #[Value.int .i64 (k : Int), u]).foldl (fun tmps (x : Tmp × Value) => tmps.setIfInBounds x.1 x.2) a.tmps = (a.tmps.setIfInBounds pi (.int .i64 (k : Int))).setIfInBounds pv u := by simp
   rw [show (#[pi, pv].zip #[Value.int .i64 (k : Int), u]).foldl (fun tmps (t, a) => tmps.setIfInBounds t a) a.tmps = (a.tmps.setIfInBounds pi (.int .i64 (k : Int))).setIfInBounds pv u from htm]
   refine wpIn_mono hw' ?_
   rintro e b1 V1 ⟨s1, hq, σ1, F1, hr2⟩
   cases e with
   | normal =>
    have hnl : ¬ ownB σ' (w.heap.size + 1) := fun ⟨i, h⟩ => h1.heap.noloop h hl
    have hlV1 : V1.heap[w.heap.size + 1]? = some (.loop (rec .ready none)) := (hr2.keep.block _ hlt hnl).trans hl
    have hnF1 : ¬ F1 (w.heap.size + 1) := fun h => by
     rcases hr2.fnew _ h with h | h | h
     ·exact hnF h
     ·exact hnl h
     ·have : W.heap.size ≤ w.heap.size + 1 := h; omega
    refine ⟨_, run_beginRound hlV1 (by rw [hrec]), ?_⟩
    obtain ⟨V2, hV2⟩ : ∃ V2, V1.putObj (w.heap.size + 1) (.loop { rec .ready none with state := .busy }) = V2 := ⟨_, rfl⟩
    rw [hV2]
    have hlV2 : V2.heap[w.heap.size + 1]? = some (.loop { rec .ready none with state := .busy }) := by rw [← hV2]; exact World.putObj_heap_same (Z19 hlV1)
    let X2 : Ctx := ⟨X.n, V2, ownB σ1, F1, s.heap.length, σ1, some (w.heap.size + 1), false⟩
    have hFb : ∀ b, F1 b → V2.heap[b]? = V1.heap[b]? := fun b hb => by rw [← hV2]; exact World.putObj_heap_other (fun e => hnF1 (e ▸ hb))
    have hst2 : RepAt X2 σ1 F1 s1 b1 V2 :=
     ⟨hr2.defers, hr2.size, fun i => (hr2.env i).mono (fun _ h => h) hFb, by rw [← hV2]; exact hr2.heap.putObj hlV1 hnF1 _, Keep.refl _ _, fun id g h => .inl ⟨id, h⟩, fun b hb => .inl hb, fun id _ => .inl rfl, hr2.hm⟩
    have hw2 := hq X2 rfl rfl rfl rfl b1 V2 ⟨σ1, F1, hst2⟩
    refine wpIn_mono (show body.wpIn ((fnc none).inRound (w.heap.size + 1)) 0 P _ b1 V2 from hw2) ?_
    rintro e b2 V3 ⟨s2, hq2, σ2, F2, hr3⟩
    have hnl1 : ¬ ownB σ1 (w.heap.size + 1) := fun ⟨i, h⟩ => hr2.heap.noloop h hlV1
    have hlV3 : V3.heap[w.heap.size + 1]? = some (.loop { rec .ready none with state := .busy }) := (hr3.keep.block _ (Z19 hlV2) hnl1).trans hlV2
    have hnF2 : ¬ F2 (w.heap.size + 1) := fun h => by
     rcases hr3.fnew _ h with h | h | h
     ·exact hnF1 h
     ·exact hnl1 h
     ·have : V2.heap.size ≤ w.heap.size + 1 := h
      have := Z19 hlV2
      omega
    have fin : ∀ (o : Obj), s2.heap.map AObj.isD = s.heap.map AObj.isD → RepAt X σ2 (fun b => F' b ∨ F2 b) ⟨s.env, s2.heap⟩ a1 (V3.putObj (w.heap.size + 1) o) ∧ ¬ (F' (w.heap.size + 1) ∨ F2 (w.heap.size + 1)) := fun o e1 => by
     have st : Stp (w.heap.size + 1) s.heap.length σ' F' W σ2 F2 (V3.putObj (w.heap.size + 1) o) := by
      have p1 : Stp (w.heap.size + 1) s.heap.length σ' F' W σ1 F1 V1 := RepAt.stp hr2
      have p2 : Stp (w.heap.size + 1) s.heap.length σ1 F1 V1 σ1 F1 V2 := by rw [← hV2]; exact Stp.putObj _
      have p3 : Stp (w.heap.size + 1) s.heap.length σ1 F1 V2 σ2 F2 V3 := RepAt.stp hr3
      exact ((p1.trans p2).trans p3).trans (Stp.putObj _)
     have := h1.rounded (l := w.heap.size + 1) (h' := s2.heap) (by rw [show (St.mk s.env h).heap.length = s.heap.length from hlen]; exact st) (hr3.heap.putObj hlV3 hnF2 o) (e1.trans hdk.symm) hl hnF hl0
     exact this
    cases e with
    | normal =>
     have e1 := hI _ _ hq2
     have hen := run_endRound (P := P) none hlV3
     obtain ⟨f1, f2⟩ := fin (.loop (rec .ready none)) e1
     refine ⟨_, _, hen, .inl ⟨rfl, ?_⟩⟩
     rw [hrec] at f1 ⊢
     refine ⟨_, σ2, s2.heap, f1, hq2, ?_, f2⟩
     rw [hrec]
     exact World.putObj_heap_same (Z19 hlV3)
    | ret =>
     have e1 := hIx _ hq2
     have hen := run_endRound (P := P) (some .ret) hlV3
     obtain ⟨f1, f2⟩ := fin (.loop (rec .done (some .ret))) e1
     refine ⟨_, _, hen, .inr ⟨rfl, ?_⟩⟩
     rw [hrec] at f1 ⊢
     refine ⟨σ2, _, s2.heap, f1, hq2, ?_, f2⟩
     rw [hrec]
     exact World.putObj_heap_same (Z19 hlV3)
    | exit id => exact hq2.elim
    | goto t => exact hq2.elim
    | panic c => exact hq2.elim
    | outgrown => exact hq2.elim
   | exit id => exact hq.elim
   | goto t => exact hq.elim
   | ret => exact hq.elim
   | panic c => exact hq.elim
   | outgrown => exact hq.elim
  ·rintro e W2 ⟨v, rfl, ⟨F', σ', h, h1, hIk, hl, hnF⟩ | ⟨σ', F', h, h1, hIk, hl, hnF⟩⟩
   ·exact ⟨none, _, by have := run_endLoop (P := P) hl (by rw [hrec]; simp); rw [hrec] at this; exact this, ⟨_, hQ h hIk, σ', F', (by rw [ha1] at h1; exact h1.putObj hl hnF hl0 _)⟩⟩
   ·refine ⟨some .ret, _, by have := run_endLoop (P := P) hl (by rw [hrec]; simp); rw [hrec] at this; exact this, wpIn_ret ⟨_, hQx h hIk, σ', F', (by rw [ha1] at h1; exact h1.putObj hl hnF hl0 _)⟩⟩
end
end Go.Proofs.YtcphmeggalaplaaDoor.Eng
set_option linter.unusedVariables false
set_option linter.unusedSimpArgs false
namespace Go.Proofs.YtcphmeggalaplaaDoor.Eng
open Go Go.RowKit
theorem encSlots_ptrs : ∀ (sl : List (Nat × SK)) (l : List SV), ptrsB sl = true → ∃ a, encSlots sl l = (a, l) ∧ ∀ l', encSlots sl l' = (a, l')
 | [], l, _ => ⟨[], rfl, fun _ => rfl⟩
 | (i, .ptr k sz) :: r, l, h => by
  obtain ⟨a, h1, h2⟩ := encSlots_ptrs r l h
  exact ⟨(i, .ptr k 0 sz 0) :: a, by simp only [encSlots, h1], fun l' => by simp only [encSlots, h2]⟩
 | (i, .own k sz) :: r, l, h => by
  obtain ⟨a, h1, h2⟩ := encSlots_ptrs r l h
  exact ⟨(i, .own k sz) :: a, by simp only [encSlots, h1], fun l' => by simp only [encSlots, h2]⟩
def AObj.kd : AObj → Nat
 | .dead => 0
 | .box _ _ => 1
 | .row _ _ _ => 2
 | _ => 3
theorem isD_kd (o : AObj) : o.isD = decide (o.kd = 0) := by cases o <;> rfl
theorem Z80 {h h' : List AObj} (e : h.map AObj.kd = h'.map AObj.kd) : h.map AObj.isD = h'.map AObj.isD := by
 have : ∀ l : List AObj, l.map AObj.isD = (l.map AObj.kd).map fun k => decide (k = 0) := fun l => by
  rw [List.map_map]; exact List.map_congr_left fun o _ => isD_kd o
 rw [this, this, e]
theorem Zjw {n : Nat} : ∀ (obs : List OB) (h : List TObj), boxesB obs = true → Zv n h obs = true → ∀ k o, k < obs.length → h[k]? = some o → ∀ H, ((o.toObj H).kd) = ((obs[k]?).map OB.kd).getD 9
 | [], h, _, _, k, o, hk, _, H => by simp at hk
 | ob :: r, [], _, hc, k, o, hk, ho, H => by simp at ho
 | ob :: r, o1 :: h, hb, hc, k, o, hk, ho, H => by
  cases k with
  | succ k =>
   have hb' : boxesB r = true := by cases ob <;> first | exact hb | cases hb
   have hc' : Zv n h r = true := by
    cases ob <;> simp only [Zv, Bool.and_eq_true] at hc <;> first | exact hc.2 | cases hb
   exact Zjw r h hb' hc' k o (by simpa using hk) (by simpa using ho) H
  | zero =>
   have e : o1 = o := by simpa using ho
   subst e
   cases ob with
   | row e t => cases o1 <;> simp [Zv] at hc <;> rfl
   | box e cs => cases o1 <;> simp [Zv] at hc <;> rfl
   | dead => cases o1 <;> simp [Zv] at hc <;> rfl
   | mapo t => cases hb
   | tree e ei t => cases hb
theorem le_kd {a b : AObj} (h : ObjLe a b) (f : AV → AV) (a' : AObj) (e : a = a'.sub f) : b.kd = a'.kd := by
 subst e
 cases a' <;> cases b <;> first | rfl | exact h.elim | cases h
theorem lensO_ok : ∀ (h h' : List TObj), (∀ c ∈ lensO h h', c) → (h.map fun o => (o.toObj []).kd) = (h'.map fun o => (o.toObj []).kd) → ∀ id, rowLen h' id = rowLen h id
 | [], [], _, _, id => rfl
 | [], _ :: _, _, e, id => by simp at e
 | _ :: _, [], _, e, id => by simp at e
 | o :: r, o' :: r', hc, e, id => by
  simp only [List.map_cons, List.cons.injEq] at e
  have ih := lensO_ok r r' (fun c h => hc c (by
   cases o <;> cases o' <;> first | exact h | exact List.mem_cons_of_mem _ h)) e.2
  cases id with
  | succ k =>
   have := ih k
   rw [Zd, Zd] at this ⊢
   simpa using this
  | zero =>
   rw [Zd, Zd]
   simp only [List.getElem?_cons_zero]
   cases o <;> cases o' <;> first | rfl | (exact hc _ (List.mem_cons_self ..)) | (have := e.1; cases this)
theorem ptrs_tys : ∀ (sl : List (Nat × SK)), ptrsB sl = true → ∀ i ∈ Zh sl, i ∈ ownSl sl
 | (j, .own k sz) :: r, h, i, hi => by
  rcases List.mem_cons.1 hi with h1 | h1
  ·exact List.mem_cons.2 (.inl h1)
  ·exact List.mem_cons_of_mem _ (ptrs_tys r h i h1)
 | (j, .ptr k sz) :: r, h, i, hi => by
  rcases List.mem_cons.1 hi with h1 | h1
  ·exact List.mem_cons.2 (.inl h1)
  ·exact List.mem_cons_of_mem _ (ptrs_tys r h i h1)
section
variable {P : Program} {C : Cx} {X : Ctx} {root : Code} {L : List Nat → Option LE}
theorem Z87 {sh : Shape} {s : TSt} {x : denL sh.tys} {fr : List (Nat × SV)} (hb : boxesB sh.objs = true) (hc : (Z9 s.env sh.objs.length sh.slots && Zv sh.objs.length s.heap sh.objs) = true)
  (hx : asTL [] sh.tys (Z8 s.env sh.slots ++ colObjs s.heap sh.objs) = some x) : (encS sh x fr).toSt.heap.map AObj.kd = sh.objs.map OB.kd := by
 rw [Bool.and_eq_true] at hc
 have hrel := rel3_of _ _ _ hx
 have hE : (encS sh x fr).heap = encObjs sh.objs (encSlots sh.slots (svL sh.tys x)).2 := rfl
 have hro := (Z2p (H := s.heap) (H' := s.heap) (n := sh.objs.length) (fun k _ => rfl) sh.slots _ _ _ hrel hc.1).1
 obtain ⟨h1, h2, h3⟩ := Z6k sh.objs s.heap _ hro hc.2
 have hrow : ∀ k, k < sh.objs.length → rowLen s.heap k = rowLen (encObjs sh.objs (encSlots sh.slots (svL sh.tys x)).2) k := fun k hk => by
  have hk' : k < s.heap.length := Nat.lt_of_lt_of_le hk h2
  obtain ⟨o', h4, _, h6⟩ := h3 k _ (List.getElem?_eq_getElem hk') hk
  rw [Zd, Zd, List.getElem?_eq_getElem hk', h4]
  exact h6
 apply List.ext_getElem?
 intro k
 rw [List.getElem?_map, List.getElem?_map]
 simp only [TSt.toSt, List.getElem?_map, hE]
 rcases Nat.lt_or_ge k sh.objs.length with hk | hk
 ·have hk' : k < s.heap.length := Nat.lt_of_lt_of_le hk h2
  obtain ⟨o', h4, h5, _⟩ := h3 k _ (List.getElem?_eq_getElem hk') hk
  have h6 := Zjw sh.objs s.heap hb hc.2 k _ hk (List.getElem?_eq_getElem hk') s.heap
  have h7 := le_kd (h5 _ _ hrow) _ _ rfl
  rw [h4, List.getElem?_eq_getElem hk]
  simp only [Option.map_some, Option.some.injEq]
  rw [List.getElem?_eq_getElem hk] at h6
  exact h7.trans h6
 ·rw [List.getElem?_eq_none (by omega), List.getElem?_eq_none hk]
  rfl
theorem Zj2 (h : List TObj) (o : TObj) : (o.toObj h).kd = (o.toObj []).kd := by cases o <;> rfl
theorem Z9h (s : TSt) : s.toSt.heap.map AObj.kd = s.heap.map fun o => (o.toObj []).kd := by
 simp only [TSt.toSt, List.map_map]
 exact List.map_congr_left fun o _ => Zj2 _ o
def EntR.cx (ent : EntR) (C : Cx) : Cx := { C with m := ent.obs.length }
theorem CxOK.cx {ent : EntR} (h : CxOK P C) : CxOK P (ent.cx C) := ⟨h.T, h.B, h.BO, h.mixed, h.eqs, h.mp, h.so, h.w⟩
noncomputable def EntR.walk (C : Cx) (L : List Nat → Option LE) (p : List Nat) (ent : EntR) (a b : Code) (x : denL (Shape.tys ⟨ent.sl, ent.obs⟩)) (s : TSt) : Option (denL (Shape.tys ⟨ent.sl, ent.obs⟩) ⊕ denL (Shape.tys ⟨ent.sl, ent.outs⟩)) :=
 exF (ent.cx C) L a (0 :: p) (fun e s => match e with
  | .normal => exF (ent.cx C) L b (1 :: p) (ent.kd x) s
  | _ => none) s
theorem LoopOKR.of (hC : CxOK P C) {p : List Nat} {ent : EntR} {a b : Code} (hL : LsOK P (ent.cx C) root L true) (hat : atC root p = some (.rangeFunc (.tmp ent.it) #[ent.pi, ent.pv] a b)) {el : List AV → AV} (hB : BackIter P ent.fn ent.t.size el) (hel : ∀ x : ent.t.den, el (ent.t.cells x) = ent.t.av x)
  (hfit : ent.fits C.m = true) (hpl : (plainC a && plainC b) = true) (hpi : ent.pi < C.n) (hpv : ent.pv < C.n)
  (hstep : ∀ iv x i v, ent.walk C L p a b x (ent.head iv x i v) = ent.step iv x i v) : LoopOKR P C ent (.tmp ent.it) #[ent.pi, ent.pv] a b := by
 intro X hn hm hro hrf β K s r h
 simp only [EntR.fits, Bool.and_eq_true, Bool.not_eq_true', decide_eq_true_eq, decide_eq_false_iff_not] at hfit
 obtain ⟨⟨⟨⟨⟨⟨⟨⟨⟨⟨f1, f2⟩, f3⟩, f4⟩, f5⟩, f6⟩, f7⟩, f8⟩, f9⟩, f10⟩, f11⟩ := hfit
 have f5 : C.m ≤ ent.obs.length := Nat.le_of_ble_eq_true f5
 have f3 := noSl_ok f3
 have f7 := noSl_ok f7
 have f8 := noSl_ok f8
 have f9 := noSl_ok f9
 have f10 := noSl_ok f10
 rw [Bool.and_eq_true] at hpl
 unfold runR at h
 split at h
 ·rename_i f t' xs0 hit
  split at h
  ·rename_i xs iv hxs hfc hiv
   rw [Bool.and_eq_true, decide_eq_true_eq] at hfc
   obtain ⟨hf, hci⟩ := hfc
   obtain ⟨e1, h9⟩ := Zc hxs
   injection e1 with e1
   subst e1
   obtain rfl : xs0 = xs := h9
   subst hf
   obtain ⟨hbig, h⟩ := Z1f h
   obtain ⟨x, h4, h5, h6⟩ := Z2q h
   obtain ⟨y, h7, h8⟩ := Z3l h6
   obtain ⟨zs, hzs⟩ : ∃ zs : List ent.t.den, zs = xs0 := ⟨xs0, rfl⟩
   have h7 : Zcp (ent.step iv) zs.reverse x = some y := by rw [hzs]; exact h7
   have hbig : (zs.length : Int) ≤ 9223372036854775807 := by rw [hzs]; exact hbig
   have hit : tget s.env ent.it = SV.val (.clo ent.fn (.ref (.slice ent.t))) zs := by rw [hzs]; exact hit
   obtain ⟨sa, hsa, hsa'⟩ := encSlots_ptrs ent.sl [] f4
   have hI := Zhe (env := s.env) ent.inv _ hci (rel3_of _ _ _ hiv)
   have hkeys : (encI ent.inv iv).map (·.1) = Zh ent.inv := hI.1
   have hfrI : FrOK (encI ent.inv iv) s := fun H H' n i => by
    by_cases hi : i ∈ Zh ent.inv
    ·exact (hI.2 i hi).1 H H' n
    ·rw [tget_not (encI ent.inv iv) i (by rw [hkeys]; exact hi)]; exact .any _
   let itv : SV := .val (.clo ent.fn (.ref (.slice ent.t))) zs
   let fr : List (Nat × SV) := (ent.it, itv) :: encI ent.inv iv
   have hfr : FrOK fr s := fun H H' n i => by
    show LeS H H' n (tget s.env i) (tget ((ent.it, itv) :: encI ent.inv iv) i)
    by_cases hi : i = ent.it
    ·subst hi
     rw [show tget ((ent.it, itv) :: encI ent.inv iv) ent.it = itv by simp [tget], hit]
     exact AV.le_of_eq (Z1l (Z18 n) (.clo ent.fn (.ref (.slice ent.t))) zs)
    ·rw [show tget ((ent.it, itv) :: encI ent.inv iv) i = tget (encI ent.inv iv) i by simp [tget, hi]]
     exact hfrI H H' n i
   have hmo : X.m ≤ ent.obs.length := by rw [hm]; exact f5
   have hhead : Imp X s.toSt (encS ⟨ent.sl, ent.obs⟩ x fr).toSt := Z6l (sh := ⟨ent.sl, ent.obs⟩) hmo h4 h5 hfr
   have henv : ∀ {obs : List OB} (x' : denL (Shape.tys ⟨ent.sl, obs⟩)) (q : List (Nat × SV)), (encS ⟨ent.sl, obs⟩ x' q).env = sa ++ q := fun x' q => by rw [Z7d, hsa']
   have hpsa : ∀ i, ∀ H H' : List TObj, (∀ id, rowLen H' id = rowLen H id) → (tget sa i).toAV H = (tget sa i).toAV H' := by
    have : ∀ (sl : List (Nat × SK)) (sa : List (Nat × SV)), ptrsB sl = true → encSlots sl [] = (sa, []) → ∀ i, ∀ H H' : List TObj, (∀ id, rowLen H' id = rowLen H id) → (tget sa i).toAV H = (tget sa i).toAV H' := by
     intro sl
     induction sl with
     | nil => intro sa _ h i H H' _; cases h; rfl
     | cons q r ih =>
      intro sa hp h i H H' he
      obtain ⟨j, sk⟩ := q
      cases sk with
      | ptr k sz =>
       obtain ⟨sb, hsb, _⟩ := encSlots_ptrs r [] hp
       simp only [encSlots, hsb] at h
       cases h
       simp only [tget]
       split
       ·rfl
       ·exact ih sb hp hsb i H H' he
      | own k sz =>
       obtain ⟨sb, hsb, _⟩ := encSlots_ptrs r [] hp
       simp only [encSlots, hsb] at h
       cases h
       simp only [tget]
       split
       ·simp only [SV.toAV, he]
       ·exact ih sb hp hsb i H H' he
      | _ => cases hp
    exact this ent.sl sa f4 hsa
   have hfrp : ∀ i, ∀ H H' : List TObj, (tget (encI ent.inv iv) i).toAV H = (tget (encI ent.inv iv) i).toAV H' := fun i H H' => by
    by_cases hi : i ∈ Zh ent.inv
    ·rcases (hI.2 i hi).2.2.2.2.2 with ⟨t, z, e⟩ | ⟨t, z, e⟩ | ⟨g, e⟩
     ·have e' : tget (encI ent.inv iv) i = .val t z := e
      rw [e']; rfl
     ·have e' : tget (encI ent.inv iv) i = .rp t z := e
      rw [e']; rfl
     ·have e' : tget (encI ent.inv iv) i = .fn g [] := e
      rw [e']; rfl
    ·rw [tget_not (encI ent.inv iv) i (by rw [hkeys]; exact hi)]; rfl
   have hsk : ∀ i, i ∈ sa.map (·.1) → i ∈ Zh ent.sl := fun i hi => encSlots_keys ent.sl [] i (by rw [hsa]; exact hi)
   refine TW.from hhead ?_
   unfold TW
   let G : TSt → Prop := fun w => w.toSt.heap.map AObj.kd = ent.obs.map OB.kd ∧ ∀ id, rowLen w.heap id = rowLen (encS ⟨ent.sl, ent.obs⟩ x fr).heap id
   let I : Nat → List AObj → Prop := fun k h => ∃ x', (Zcp (ent.step iv) (zs.take k).reverse x' = some y ∧ h = (encS ⟨ent.sl, ent.obs⟩ x' fr).toSt.heap) ∧ G (encS ⟨ent.sl, ent.obs⟩ x' fr)
   let Ix : List AObj → Prop := fun h => ∃ y', (y = .inr y' ∧ h = (encS ⟨ent.sl, ent.outs⟩ y' fr).toSt.heap) ∧ G (encS ⟨ent.sl, ent.outs⟩ y' fr)
   have hG0 : G (encS ⟨ent.sl, ent.obs⟩ x fr) := ⟨Z87 (sh := ⟨ent.sl, ent.obs⟩) f1 h4 h5, fun _ => rfl⟩
   have hwfr : ∀ {obs : List OB} (x' : denL (Shape.tys ⟨ent.sl, obs⟩)), WFr [] s (encS ⟨ent.sl, obs⟩ x' (encI ent.inv iv)) := by
    intro obs x' i _
    rw [henv, tget_app]
    by_cases hk : i ∈ sa.map (·.1)
    ·rw [if_pos hk]
     rw [Bool.and_eq_true] at h4
     have hchk := Z16 ent.sl i h4.1 (ptrs_tys _ f4 i (hsk i hk))
     have no : ∀ v : SV, tget s.env i = v → (∀ k sz, v ≠ .own k sz) → (∀ k sz, v ≠ .ptr k 0 sz 0) → (∀ k q, v ≠ .nm k q) → (∀ cs, v ≠ .agg cs) → (∀ f c cs, v ≠ .fn f (c :: cs)) → (∀ c, v ≠ .cst c) → False := by
      intro v e h1 h2 h3 h4 h5 h6
      rcases hchk with ⟨k, sz, h⟩ | ⟨k, sz, h⟩ | ⟨k, sz, h⟩ | ⟨cs, h⟩ | ⟨f, c, cs, h⟩ | ⟨c, h⟩
      ·exact h1 k sz (e.symm.trans h)
      ·exact h2 k sz (e.symm.trans h)
      ·exact h3 k sz (e.symm.trans h)
      ·exact h4 cs (e.symm.trans h)
      ·exact h5 f c cs (e.symm.trans h)
      ·exact h6 c (e.symm.trans h)
     refine ⟨fun e => ?_, fun t z e => ?_, fun t z e => ?_, fun g e => ?_⟩
     ·exact (no _ e (fun _ _ h => by cases h) (fun _ _ h => by cases h) (fun _ _ h => by cases h) (fun _ h => by cases h) (fun _ _ _ h => by cases h) (fun _ h => by cases h)).elim
     ·exact (no _ e (fun _ _ h => by cases h) (fun _ _ h => by cases h) (fun _ _ h => by cases h) (fun _ h => by cases h) (fun _ _ _ h => by cases h) (fun _ h => by cases h)).elim
     ·exact (no _ e (fun _ _ h => by cases h) (fun _ _ h => by cases h) (fun _ _ h => by cases h) (fun _ h => by cases h) (fun _ _ _ h => by cases h) (fun _ h => by cases h)).elim
     ·exact (no _ e (fun _ _ h => by cases h) (fun _ _ h => by cases h) (fun _ _ h => by cases h) (fun _ h => by cases h) (fun _ _ _ h => by cases h) (fun _ h => by cases h)).elim
    ·rw [if_neg hk]
     by_cases hii : i ∈ Zh ent.inv
     ·have hq := hI.2 i hii
      exact ⟨fun e => absurd e hq.2.1, fun t z e => .inr (hq.2.2.1 t z e), fun t z e => .inr (hq.2.2.2.1 t z e), fun g e => .inr (hq.2.2.2.2.1 g e)⟩
     ·have e := tget_not (encI ent.inv iv) i (by rw [hkeys]; exact hii)
      exact ⟨fun _ => e, fun _ _ _ => .inl e, fun _ _ _ => .inl e, fun _ _ => .inl e⟩
   have houtle : ∀ {obs : List OB} (x' : denL (Shape.tys ⟨ent.sl, obs⟩)), (∀ id, rowLen (encS ⟨ent.sl, obs⟩ x' (encI ent.inv iv)).heap id = rowLen (encS ⟨ent.sl, ent.obs⟩ x fr).heap id) → St.le ⟨(encS ⟨ent.sl, ent.obs⟩ x fr).toSt.env, (encS ⟨ent.sl, obs⟩ x' fr).toSt.heap⟩ (encS ⟨ent.sl, obs⟩ x' (encI ent.inv iv)).toSt := by
    intro obs x' hrl
    refine ⟨rfl, fun i => ?_⟩
    simp only [TSt.toSt, Zn, henv, tget_app]
    by_cases hk : i ∈ sa.map (·.1)
    ·rw [if_pos hk, if_pos hk, hpsa i _ (encS ⟨ent.sl, obs⟩ x' (encI ent.inv iv)).heap hrl]; exact .refl _
    ·rw [if_neg hk, if_neg hk]
     by_cases hi : i = ent.it
     ·subst hi
      by_cases hii : ent.it ∈ Zh ent.inv
      ·have h10 := (hI.2 _ hii).2.2.1 _ _ hit
       have e' : tget (encI ent.inv iv) ent.it = itv := h10
       rw [e', show tget fr ent.it = itv by simp [fr, tget]]
       exact .refl _
      ·rw [tget_not (encI ent.inv iv) ent.it (by rw [hkeys]; exact hii)]; exact .any _
     ·rw [show tget fr i = tget (encI ent.inv iv) i by simp [fr, tget, hi], hfrp i _ (encS ⟨ent.sl, obs⟩ x' (encI ent.inv iv)).heap]; exact .refl _
   have hdx := Z80 (h := (encS ⟨ent.sl, ent.obs⟩ x fr).toSt.heap) (h' := (encS ⟨ent.sl, ent.obs⟩ x fr).toSt.heap) rfl
   have hlenx : (encS ⟨ent.sl, ent.obs⟩ x fr).toSt.heap.length = ent.obs.length := by have := congrArg List.length hG0.1; simpa using this
   have f6' : ent.outs.length = ent.obs.length := by have := congrArg List.length f6; simpa using this
   refine WP.rangeB (es := zs.map ent.t.cells) (sz := ent.t.size) hro hrf hB (by rw [List.length_map]; exact hbig) ?_ (by rw [hn]; exact hpi) (by rw [hn]; exact hpv) I Ix ?_ ?_ ?_ ?_ ?_ ?_
   ·simp only [TSt.toSt, Zn, henv, tget_app]
    rw [if_neg (fun hk => f3 (hsk _ hk)), show tget fr ent.it = itv by simp [fr, tget]]
    rfl
   ·rintro k h ⟨x', ⟨_, rfl⟩, hG⟩
    exact Z80 (hG.1.trans hG0.1.symm)
   ·rintro h ⟨y', ⟨_, rfl⟩, hG⟩
    exact Z80 (hG.1.trans hG0.1.symm)
   ·exact ⟨x, ⟨by simp only [List.length_map, List.take_length]; exact h7, rfl⟩, hG0⟩
   ·rintro k h cs ⟨x', ⟨hg, rfl⟩, hGx⟩ hcs X1 hn1 hm1 hro1 hrf1
    rw [List.getElem?_map, Option.map_eq_some_iff] at hcs
    obtain ⟨v, hv, rfl⟩ := hcs
    have hk : k < zs.length := (List.getElem?_eq_some_iff.1 hv).1
    have htk : (zs.take (k + 1)).reverse = v :: (zs.take k).reverse := by
     rw [List.take_add_one, hv]; simp
    rw [htk] at hg
    have hrl : ((zs.take k).reverse).length = k := by simp; omega
    simp only [Zcp, hrl] at hg
    cases hst : ent.step iv x' (k : Int) v with
    | none => rw [hst] at hg; cases hg
    | some q =>
     rw [hst] at hg
     have hwalk : ent.walk C L p a b x' (ent.head iv x' (k : Int) v) = some q := by rw [hstep]; exact hst
     unfold EntR.walk at hwalk
     have hat0 : atC root (0 :: p) = some a := by simp only [atC, hat]; rfl
     have hat1 : atC root (1 :: p) = some b := by simp only [atC, hat]; rfl
     have hm1' : X1.m = (ent.cx C).m := by rw [hm1, hlenx]; rfl
     have hex := Z84 (X := X1) hC.cx (hn1.trans hn) hm1' hL a (0 :: p) _ (ent.head iv x' (k : Int) v) q (.inr hpl.1) hat0 hwalk
     have hle : St.le ⟨(ent.pv, el (ent.t.cells v)) :: (ent.pi, .v (.int .i64 (k : Int))) :: (encS ⟨ent.sl, ent.obs⟩ x fr).toSt.env, (encS ⟨ent.sl, ent.obs⟩ x' fr).toSt.heap⟩ (ent.head iv x' (k : Int) v).toSt := by
      refine ⟨rfl, fun i => ?_⟩
      have eh : (ent.head iv x' (k : Int) v).env = sa ++ ((ent.pi, .val (.int .i64) (k : Int)) :: (ent.pv, .val ent.t v) :: encI ent.inv iv) := henv x' _
      simp only [TSt.toSt, Zn, envGet, eh, henv, tget_app]
      by_cases hiv' : i = ent.pv
      ·subst hiv'
       rw [if_pos rfl, if_neg (fun hk => f10 (hsk _ hk))]
       have : tget ((ent.pi, SV.val (.int .i64) (k : Int)) :: (ent.pv, SV.val ent.t v) :: encI ent.inv iv) ent.pv = SV.val ent.t v := by simp [tget, Ne.symm f11]
       rw [this, hel]
       exact .refl _
      ·rw [if_neg hiv']
       by_cases hip : i = ent.pi
       ·subst hip
        rw [if_pos rfl, if_neg (fun hk => f9 (hsk _ hk))]
        have : tget ((ent.pi, SV.val (.int .i64) (k : Int)) :: (ent.pv, SV.val ent.t v) :: encI ent.inv iv) ent.pi = SV.val (.int .i64) (k : Int) := by simp [tget]
        rw [this]
        exact .refl _
       ·rw [if_neg hip]
        by_cases hk : i ∈ sa.map (·.1)
        ·rw [if_pos hk, if_pos hk, hpsa i _ (ent.head iv x' (k : Int) v).heap hGx.2]; exact .refl _
        ·rw [if_neg hk, if_neg hk]
         have : tget ((ent.pi, SV.val (.int .i64) (k : Int)) :: (ent.pv, SV.val ent.t v) :: encI ent.inv iv) i = tget (encI ent.inv iv) i := by simp [tget, hip, hiv']
         rw [this]
         by_cases hi : i = ent.it
         ·subst hi
          by_cases hii : ent.it ∈ Zh ent.inv
          ·have h10 := (hI.2 _ hii).2.2.1 _ _ hit
           have e' : tget (encI ent.inv iv) ent.it = itv := h10
           rw [e', show tget fr ent.it = itv by simp [fr, tget]]
           exact .refl _
          ·rw [tget_not (encI ent.inv iv) ent.it (by rw [hkeys]; exact hii)]; exact .any _
         ·rw [show tget fr i = tget (encI ent.inv iv) i by simp [fr, tget, hi], hfrp i _ (ent.head iv x' (k : Int) v).heap]; exact .refl _
     refine WP.le hle (WP.monoR hex (fun e s' hq => ?_))
     obtain ⟨s1, i1, k1, _⟩ := hq
     cases e with
     | normal =>
      refine ⟨s1.toSt, i1, ?_⟩
      intro X2 hn2 hm2 hro2 hrf2
      have hm2' : X2.m = (ent.cx C).m := by rw [hm2, hlenx]; rfl
      have hex2 := Z84 (X := X2) hC.cx (hn2.trans hn) hm2' hL b (1 :: p) (ent.kd x') s1 q (.inr hpl.2) hat1 k1
      refine WP.monoR hex2 (fun e s'' hq2 => ?_)
      obtain ⟨s2, i2, k2, _⟩ := hq2
      have hnil : FrOK [] s2 := fun H H' n i => .any _
      have hmm : X2.m ≤ ent.obs.length := by rw [hm2']; exact Nat.le_refl _
      cases e with
      | normal =>
       obtain ⟨x2, e1, e2, e3⟩ := Z2q k2
       obtain ⟨e4, e5⟩ := ckL_some e3
       cases e5
       have hk2 : (encS ⟨ent.sl, ent.obs⟩ x2 fr).toSt.heap.map AObj.kd = ent.obs.map OB.kd := Z87 (sh := ⟨ent.sl, ent.obs⟩) f1 e1 e2
       have hl2 := lensO_ok _ _ e4 (by rw [← Z9h, ← Z9h]; exact hGx.1.trans hk2.symm)
       exact ⟨_, i2.trans (Z6l (sh := ⟨ent.sl, ent.obs⟩) hmm e1 e2 hnil), x2, ⟨hg, rfl⟩, hk2, fun id => (hl2 id).trans (hGx.2 id)⟩
      | ret =>
       obtain ⟨x2, e1, e2, e3⟩ := Z2q k2
       obtain ⟨e4, e5⟩ := ckL_some e3
       cases e5
       cases hg
       have hk2 : (encS ⟨ent.sl, ent.outs⟩ x2 fr).toSt.heap.map AObj.kd = ent.obs.map OB.kd := (Z87 (sh := ⟨ent.sl, ent.outs⟩) f2 e1 e2).trans f6
       have hl2 := lensO_ok _ _ e4 (by rw [← Z9h, ← Z9h]; exact hGx.1.trans hk2.symm)
       exact ⟨_, i2.trans (Z6l (sh := ⟨ent.sl, ent.outs⟩) (by rw [show (Shape.mk ent.sl ent.outs).objs.length = ent.outs.length from rfl, f6']; exact hmm) e1 e2 hnil), x2, ⟨rfl, rfl⟩, hk2, fun id => (hl2 id).trans (hGx.2 id)⟩
      | _ => cases k2
     | _ => cases k1
   ·rintro h ⟨x', ⟨hg, rfl⟩, hGx⟩
    cases hg
    exact ⟨encS ⟨ent.sl, ent.obs⟩ x' (encI ent.inv iv), fun a w ⟨σ, F, hr⟩ => ⟨σ, F, hr.le (houtle x' hGx.2)⟩, h8, hwfr x'⟩
   ·rintro h ⟨y', ⟨rfl, rfl⟩, hGy⟩
    exact ⟨encS ⟨ent.sl, ent.outs⟩ y' (encI ent.inv iv), fun a w ⟨σ, F, hr⟩ => ⟨σ, F, hr.le (houtle y' hGy.2)⟩, h8, hwfr y'⟩
  ·cases h
 ·cases h
end
end Go.Proofs.YtcphmeggalaplaaDoor.Eng
set_option linter.unusedVariables false
set_option linter.unusedSimpArgs false
namespace Go.Proofs.YtcphmeggalaplaaDoor.Eng
open Go Go.RowKit
section
variable {P : Program} {X : Ctx} {σ : Nat → Option Blk} {F : Nat → Prop} {s : St} {a : Act} {w : World} {h : List AObj} {C : Cx} {root : Code} {L : List Nat → Option LE}
theorem HRep.putD (hr : HRep σ F w h) {D : Nat} {x} (hl : w.heap[D]? = some (.deferred x)) (hF : ¬ F D) (o : Obj) : HRep σ F (w.putObj D o) h := by
 have hFb : ∀ b, F b → (w.putObj D o).heap[b]? = w.heap[b]? := fun b hb => World.putObj_heap_other (fun e => hF (e ▸ hb))
 refine ⟨fun id ob ho => ?_, hr.out, hr.inj, fun id g hg => ?_, fun b hb => by rw [World.putObj_size]; exact hr.flt b hb, hr.lay.mono (fun _ h => h) hFb⟩
 ·rw [← AObj.sub_id ob]
  exact (hr.obj id ob ho).move (fun _ h => h) (fun h => h) (fun x y h => h.mono (fun _ h => h) hFb) (fun b hb => ⟨hb, hFb b hb⟩)
   (fun g hg => World.putObj_heap_other (fun e => hr.nodef hg (e ▸ hl))) (fun x y h => by rw [AV.sub_id]; exact h.mono (fun _ h => h) hFb)
 ·rw [World.putObj_size]; exact hr.lt id g hg
theorem Z6s {fn : Func} {R : Ending → World → Prop} {tmps : Array Value} {n0 : Nat} : ∀ (ds : List Deferred) (w : World), Marks n0 F w ds → ds.Nodup →
  (∀ w', (∀ D, F D → w'.heap[D]? = w.heap[D]?) → Keep (fun g => n0 ≤ g) w w' → (∀ h, HRep σ F w h → HRep σ F w' h) → ∃ v, (results fn tmps).run P w' = .ok v w' ∧ R (.returned v) w') →
  LeavesInM (fnc none) 0 P fn tmps R ds .returning w
 | [], w, _, _, hR => hR w (fun _ _ => rfl) (Keep.refl _ _) (fun _ h => h)
 | d :: ds, w, hm, hn, hR => by
  obtain ⟨D, rfl, h2, h3, h4⟩ := hm d (List.mem_cons_self ..)
  have hn' := List.nodup_cons.1 hn
  have hm2 : Marks n0 F (w.putObj D (.deferred none)) ds := fun d' hd' => by
   obtain ⟨D', rfl, g2, g3, g4⟩ := hm d' (List.mem_cons_of_mem _ hd')
   refine ⟨D', rfl, (World.putObj_heap_other (fun e => ?_)).trans g2, g3, g4⟩
   subst e
   exact hn'.1 hd'
  have hk : ∀ w', Keep (fun g => n0 ≤ g) (w.putObj D (.deferred none)) w' → Keep (fun g => n0 ≤ g) w w' := fun w' k2 =>
   Keep.trans (b := w.putObj D (.deferred none)) (M := fun g => g = D) (M' := fun g => n0 ≤ g) ⟨rfl, rfl, rfl, by simp, fun b _ hb => World.putObj_heap_other hb⟩ k2 (fun g _ hg => ⟨fun e => hg (e ▸ h4), hg⟩)
  have ih := Z6s ds _ hm2 hn'.2 (fun w' k1 k2 k3 => hR w' (fun D' hD' => (k1 D' hD').trans (World.putObj_heap_other (fun e => h3 (e ▸ hD')))) (hk w' k2) (fun h hh => k3 h (hh.putD h2 h3 _)))
  exact ⟨(fun h => by cases h), .inl ⟨D, _, rfl, run_takeDeferred h2, ih⟩⟩
theorem FSpec.of_WPr {T : Tab} (hT : Zf P T) {f : Nat} {fn : Func} {c : Code} (hf : P.funcs[f]? = some fn) (hb : fn.body = some c) {h0 : List AObj} {args : List AV} {post : AV → List AObj → Prop}
  (h : ∀ X : Ctx, X.n = args.length + (fn.ntmps - args.length) → X.m = h0.length → X.ro = none → X.rf = true → WP P X c (Qret T fn h0.length post) ⟨Z14 0 args, h0⟩) : FSpec P f h0 args post := by
 intro σ F w vs hh hl hargs
 let X : Ctx := ⟨args.length + (fn.ntmps - args.length), w, ownB σ, F, h0.length, σ, none, true⟩
 refine callsIn_wide.1 (callsIn_of_wp_marks (F := Fence.wide) (n := 0) hf hb trivial ?_ rfl)
 have hrep : RepAt X σ F ⟨Z14 0 args, h0⟩ { tmps := vs.toArray ++ Array.replicate (fn.ntmps - vs.toArray.size) undef, defers := [] } w := by
  refine ⟨MarksX.nil _ _ _ _, by simp [X, hl], fun i => ?_, hh, Keep.refl _ _, fun id g h => .inl ⟨id, h⟩, fun b hb => .inl hb, fun id _ => .inl rfl, Nat.le_refl _⟩
  rw [envGet_enum, if_pos (Nat.zero_le _), Nat.sub_zero]
  cases hx : args[i]? with
  | none => exact .f _ _ (.any _)
  | some x =>
   have hlt : i < vs.length := by have := (List.getElem?_eq_some_iff.1 hx).1; omega
   have : (vs.toArray ++ Array.replicate (fn.ntmps - vs.toArray.size) undef).getD i undef = vs[i] := by
    rw [Array.getD_eq_getD_getElem?, Array.getElem?_append_left (by simpa using hlt)]
    simp [hlt]
   rw [this]
   exact hargs i x _ hx (List.getElem?_eq_getElem hlt)
 have hw : c.wpIn Fence.wide 0 P (lift X (Qret T fn h0.length post)) { tmps := vs.toArray ++ Array.replicate (fn.ntmps - vs.toArray.size) undef, defers := [] } w := h X rfl rfl rfl rfl _ _ ⟨σ, F, hrep⟩
 refine wpIn_mono hw ?_
 have fin : ∀ s a w', Ret T fn h0.length post s → Rep X s a w' → LeavesInM Fence.wide 0 P fn a.tmps (fun e w' => ∃ ret h' σ' F' rv, post ret h' ∧ e = .returned rv ∧ RepV σ' F' w' ret rv ∧ HRep σ' F' w' h' ∧ Keep (ownB σ) w w' ∧
   (∀ id g, hasB σ' id g → ownB σ g ∨ w.heap.size ≤ g) ∧ (∀ b, F' b → F b ∨ ownB σ b ∨ w.heap.size ≤ b) ∧ (∀ id, id < h0.length → σ' id = σ id ∨ σ' id = none) ∧ h0.length ≤ h'.length) a.defers .returning w' := by
  rintro s a w' hret ⟨σ', F', hr⟩
  have hd : Marks w.heap.size F' w' a.defers ∧ a.defers.Nodup := hr.defers
  refine Z6s (σ := σ') (F := F') a.defers w' hd.1 hd.2 (fun w2 k1 k2 k3 => ?_)
  have hr2 : RepAt X σ' F' s { a with defers := [] } w2 := by
   refine ⟨MarksX.nil _ _ _ _, hr.size, fun i => (hr.env i).mono (fun _ h => h) k1, k3 _ hr.heap, hr.keep.trans k2 (fun g hg hn => ⟨hn, fun (h : w.heap.size ≤ g) => ?_⟩), hr.own, hr.fnew, hr.stab, hr.hm⟩
   have : g < w.heap.size := hg
   omega
  unfold Ret at hret
  split at hret
  ·rename_i c xs hres
   obtain ⟨hc, extra, hnd, hin, ret, hle, hpost⟩ := hret
   obtain ⟨v, hv, hrv⟩ := Z63 hT hr2 hres hc
   have hin' : ∀ i ∈ List.range h0.length ++ extra, i < s.heap.length := fun i hi => by
    rcases List.mem_append.1 hi with h1 | h1
    ·have := hr.hm; have h2 := List.mem_range.1 h1; exact Nat.lt_of_lt_of_le h2 this
    ·exact hin i h1
   refine ⟨v, hv, ret, _, selσ (List.range h0.length ++ extra) σ', F', v, hpost, rfl, RepV.le hle hrv.sel, hr2.heap.sel hnd hin', hr2.keep, fun id g hs => ?_, hr2.fnew, fun id hid => ?_, by simp [Z1n]⟩
   ·obtain ⟨i, _, h1⟩ := Z2v hs
    exact hr2.own _ _ h1
   ·have : selσ (List.range h0.length ++ extra) σ' id = σ' id := by
     simp [selσ, List.getElem?_append_left (show id < (List.range h0.length).length by simpa using hid), List.getElem?_range hid]
    rw [this]
    exact hr2.stab id hid
  ·exact hret.elim
 rintro e a w' ⟨s, hq, hr⟩
 cases e with
 | normal => exact fin s a w' hq hr
 | ret => exact fin s a w' hq hr
 | _ => exact hq.elim
theorem FnOK.ofR (hC : CxOK P C) {f : Nat} {func : Func} (hE : Enters P f) (hf : P.funcs[f]? = some func) (hb : func.body = some root) {fn : TFn} {rs : List RV} (hrs : func.results.toList = rs.map RV.var) (hn : fn.args.length + (func.ntmps - fn.args.length) = C.n)
  (hL : LsOK P C root L true) (hstep : ∀ x, exF C L root [] (retK C fn.res rs) (Z35 fn.args x) = fn.run x) (hm0 : C.m = 0 := by rfl) : FnOK P f fn := by
 refine ⟨hE, fun x r hr => ?_⟩
 have hlen : ∀ (ts : List Ty) (x : denL ts), (avL ts x).length = ts.length := by
  intro ts
  induction ts with
  | nil => exact fun x => rfl
  | cons t q ih =>
   intro x
   cases q with
   | nil => rfl
   | cons u q => simp only [avL, List.length_cons]; rw [ih x.2]; rfl
 refine FSpec.of_WPr hC.T hf hb (fun X hXn hXm hro hrf => ?_)
 have hst : (Z35 fn.args x).toSt = ⟨Z14 0 (avL fn.args x), []⟩ := by
  simp only [Z35, TSt.toSt, Z7c, Zd8, Zba, List.map_nil]
 have h1 := Z84 (β := denL fn.res) hC (X := X) (by rw [hXn, hlen]; exact hn) (hXm.trans hm0.symm) hL root [] (retK C fn.res rs) (Z35 fn.args x) r (.inl ⟨hro, hrf⟩) rfl (by rw [hstep]; exact hr)
 unfold TW at h1
 rw [hst] at h1
 refine h1.monoR (fun e s hq => ?_)
 obtain ⟨s1, h2, h3, _⟩ := hq
 have key : resK C fn.res rs s1 = some r → ∃ s', (∀ a w, Rep X s a w → Rep X s' a w) ∧ Ret C.T func 0 (fun r' h => r' = retAV (avL fn.res r) ∧ h = []) s' := by
  intro h3
  unfold resK at h3
  have hfz := Z2k (X := X) (C := C) (s := s1) (Z1o C s1 rs)
  generalize frzFor C.TY s1 (Z1o C s1 rs) = s2 at h3 hfz
  simp only at h3
  refine ⟨s2.toSt, h2.trans hfz.1, ?_⟩
  unfold Ret
  rw [hrs]
  obtain ⟨c, h4, h5⟩ := Z2f (C := C) s2 rs (asTL_any _ _ _ h3)
  rw [h4]
  refine ⟨h5, [], by simp, by simp, _, ?_, rfl, by simp [Z1n]⟩
  have h6 := Z8f (Lends.none (Z1t []) s2.heap) _ _ _ h3
  have e : List.range 0 ++ [] = ([] : List Nat) := rfl
  rw [e, Z62]
  refine Z9o ?_
  rw [SV.toAVL_eq]
  exact h6
 cases e with
 | normal => exact key h3
 | ret => exact key h3
 | _ => exact absurd h3 (by simp [retK])
def Z64 (root : Code) (p : List Nat) : Code × Code := match atC root p with
 | some (.rangeFunc _ _ a b) => (a, b)
 | _ => (.skip, .skip)
theorem LsOK.consR (hC : CxOK P C) {l l' : List (List Nat × LE)} (hl : LsOK P C root (lkL l) true) {ent : EntR} (hl' : LsOK P (ent.cx C) root (lkL l') true) {q : List Nat} {el : List AV → AV} (hB : BackIter P ent.fn ent.t.size el) (hel : ∀ x : ent.t.den, el (ent.t.cells x) = ent.t.av x)
  (hat : atC root q = some (.rangeFunc (.tmp ent.it) #[ent.pi, ent.pv] (Z64 root q).1 (Z64 root q).2)) (hfit : ent.fits C.m = true) (hpl : (plainC (Z64 root q).1 && plainC (Z64 root q).2) = true) (hpi : ent.pi < C.n) (hpv : ent.pv < C.n)
  (hstep : ∀ iv x i v, ent.walk C (lkL l') q (Z64 root q).1 (Z64 root q).2 x (ent.head iv x i v) = ent.step iv x i v) : LsOK P C root (lkL ((q, LE.r ent) :: l)) true := by
 intro p ent' c h hc
 unfold lkL at h
 split at h
 ·rename_i he
  obtain rfl := eqLN_ok he
  cases h
  refine ⟨rfl, fun it ps a b hb => ?_⟩
  rw [hat] at hc
  injection hc with hc
  rw [hb] at hc
  injection hc with e1 e2 e3 e4
  subst e1 e2
  rw [← e3, ← e4]
  exact LoopOKR.of hC hl' hat hB hel hfit hpl hpi hpv hstep
 ·exact hl p ent' c h hc
end
end Go.Proofs.YtcphmeggalaplaaDoor.Eng
set_option linter.unusedVariables false
set_option linter.unusedSimpArgs false
namespace Go.Proofs.YtcphmeggalaplaaDoor.Eng
open Go Go.RowKit
def Z3k (T : Tab) (n : Nat) : List Oper → St → Option (Prop × St)
 | [], s => some (True, s)
 | o :: r, s => match o.guard, o.dst, Zi T s o.op with
  | none, some d, some (c, x) => (match Z3k T n r (s.put (some d) x) with
   | some (c', s') => some ((d < n ∧ c) ∧ c', s')
   | none => none)
  | _, _, _ => none
section
variable {P : Program} {T : Tab} {X : Ctx} {σ : Nat → Option Blk} {F : Nat → Prop} {s s' : St} {a : Act} {w : World} {ops : Array Oper} {Q : Exit → Act → World → Prop} {rest : List Oper}
def Z7y (l : List Oper) : Bool := l.all fun o => match o.dst with
 | some d => !decide (d = 0) && !decide (d = 1)
 | none => true
theorem Z37 (hT : Zf P T) (l : List Oper) : ∀ (s : St) (a : Act) (c : Prop), RepAt X σ F s a w → Z3k T X.n l s = some (c, s') → c → Z7y l = true → (∀ a', RepAt X σ F s' a' w → a'.defers = a.defers → a'.tmps.getD 0 undef = a.tmps.getD 0 undef → a'.tmps.getD 1 undef = a.tmps.getD 1 undef → wpListIn (fnc none) 0 P ops Q rest a' w) → wpListIn (fnc none) 0 P ops Q (l ++ rest) a w := by
 induction l with
 | nil =>
  intro s a c hr h hc hkb hk
  simp only [Z3k, Option.some.injEq, Prod.mk.injEq] at h
  obtain ⟨_, rfl⟩ := h
  exact hk a hr rfl rfl rfl
 | cons o r ih =>
  intro s a c hr h hc hkb hk
  unfold Z3k at h
  split at h
  ·rename_i d c1 x hg hd he
   split at h
   ·rename_i c2 s2 h2
    simp only [Option.some.injEq, Prod.mk.injEq] at h
    obtain ⟨h3, rfl⟩ := h
    rw [← h3] at hc
    simp only [Z7y, List.all_cons, Bool.and_eq_true, hd, Bool.not_eq_true', decide_eq_false_iff_not] at hkb
    obtain ⟨v, hv, hx⟩ := Z7b (o := o) hT hr he hc.1.2
    have hr2 := hr.put (d := some d) hc.1.1 hx
    have hg0 : ∀ i, i ≠ d → (a.put (some d) v).tmps.getD i undef = a.tmps.getD i undef := fun i hi => by
     simp only [Act.put]
     rw [getD_set _ _ _ _ _ (by rw [hr.size]; exact hc.1.1), if_neg hi]
    have ih := ih _ _ _ hr2 h2 hc.2 hkb.2 (fun a' h1 h2 h3 h4 => hk a' h1 h2 (h3.trans (hg0 0 (Ne.symm hkb.1.1))) (h4.trans (hg0 1 (Ne.symm hkb.1.2))))
    show (if Region.wanted o (yielded ops a.tmps) then o.wpIn (fnc none) 0 P a w (wpListIn (fnc none) 0 P ops Q (r ++ rest)) Q else _)
    rw [if_pos (by simp [Region.wanted, hg])]
    refine ⟨fun _ _ => trivial, ?_⟩
    rw [show (fnc none).round = none from rfl, Oper.semAt_none, hv w (Grow.refl w), Oper.uponIn_value, hd]
    exact ih
   ·cases h
  ·cases h
theorem BackIter.of (hT : Zf P T) {g sz n : Nat} {el : List AV → AV} {func : Func} {root : Code} (hE : Enters P g) (hf : P.funcs[g]? = some func) (hb : func.body = some root) (hres : func.results.toList = []) (hn : func.ntmps = n) (hn2 : 18 < n)
  {i0 i1 i2 i3 b0 b1 : Nat} {r0 r1 r2 r3 : List Oper} {oc on : Oper} (hbb : b0 ≠ b1)
  (hroot : root = .seq (.region i0 r0.toArray false) (.block b0 (.loop (.seq (.seq (.region i1 r1.toArray false) (.cond (.tmp 8) .skip (.exit b0))) (.seq (.block b1 (.seq (.region i3 (r3 ++ [oc, on]).toArray false) (.cond (.tmp 18) .ret .skip))) (.region i2 r2.toArray false))))))
  {ts : Array Nat} (hoc : oc.op = .call { callee := .value (.tmp 11), args := #[.tmp 12, .tmp 16], argTypes := ts }) (hocg : oc.guard = none) (hocd : oc.dst = some 17) (hk0 : Z7y r0 = true) (hk1 : Z7y r1 = true) (hk2 : Z7y r2 = true) (hk3 : Z7y r3 = true) (hk4 : Z7y [on] = true)
  (q0 : ∀ (yv : Value) (es : List (List AV)), (es.length : Int) ≤ 9223372036854775807 → ∃ c s', Z3k T n r0 ⟨[(1, .rp [.ro sz es]), (0, .v yv)], []⟩ = some (c, s') ∧ c ∧ St.le s' ⟨[(3, .v (.int .i64 ((es.length : Int) - 1))), (1, .rp [.ro sz es]), (0, .v yv)], []⟩)
  (q1 : ∀ (yv : Value) (es : List (List AV)) (k : Int), ∃ c s', Z3k T n r1 ⟨[(3, .v (.int .i64 k)), (1, .rp [.ro sz es]), (0, .v yv)], []⟩ = some (c, s') ∧ c ∧ St.le s' ⟨[(8, .v (.bool (decide (0 ≤ k)))), (3, .v (.int .i64 k)), (1, .rp [.ro sz es]), (0, .v yv)], []⟩)
  (q3 : ∀ (yv : Value) (es : List (List AV)) (k : Nat) (cs : List AV), es[k]? = some cs → cs.length = sz → ∃ c s', Z3k T n r3 ⟨[(3, .v (.int .i64 (k : Int))), (1, .rp [.ro sz es]), (0, .v yv)], []⟩ = some (c, s') ∧ c ∧ St.le s' ⟨[(16, el cs), (12, .v (.int .i64 (k : Int))), (11, .v yv), (3, .v (.int .i64 (k : Int))), (1, .rp [.ro sz es]), (0, .v yv)], []⟩)
  (q4 : ∀ (yv : Value) (es : List (List AV)) (k : Int) (b : Bool), ∃ c s', Z3k T n [on] ⟨[(17, .v (.bool b)), (3, .v (.int .i64 k)), (1, .rp [.ro sz es]), (0, .v yv)], []⟩ = some (c, s') ∧ c ∧ St.le s' ⟨[(18, .v (.bool !b)), (3, .v (.int .i64 k)), (1, .rp [.ro sz es]), (0, .v yv)], []⟩)
  (q2 : ∀ (yv : Value) (es : List (List AV)) (k : Nat), (es.length : Int) ≤ 9223372036854775807 → k < es.length → ∃ c s', Z3k T n r2 ⟨[(3, .v (.int .i64 (k : Int))), (1, .rp [.ro sz es]), (0, .v yv)], []⟩ = some (c, s') ∧ c ∧ St.le s' ⟨[(3, .v (.int .i64 ((k : Int) - 1))), (1, .rp [.ro sz es]), (0, .v yv)], []⟩) :
  BackIter P g sz el := by
 refine ⟨hE, fun es l J Jx vc F0 W hbig hJ hJx hY h0 => ?_⟩
 refine callsIn_of_wp hf hb trivial ?_ rfl
 let yv : Value := .func (.yield l) #[] #[]
 let X : World → (Nat → Prop) → Ctx := fun W F => ⟨n, W, fun _ => False, F, 0, fun _ => none, none, false⟩
 have mk : ∀ (F : Nat → Prop) (W : World) (env : List (Nat × AV)) (a : Act), (RepF F W (.rp [.ro sz es]) vc ∧ HRep (fun _ => none) F W []) → a.defers = [] → a.tmps.size = n → (∀ i, RepV (fun _ => none) F W (envGet env i) (a.tmps.getD i undef)) → RepAt (X W F) (fun _ => none) F ⟨env, []⟩ a W := by
  intro F W env a hj hd hs he
  exact ⟨hd, hs, he, hj.2, Keep.refl _ _, fun id g h => (by obtain ⟨q, h, _⟩ := h; cases h), fun b hb => .inl hb, fun id hid => absurd hid (Nat.not_lt_zero _), Nat.zero_le _⟩
 have hres' : ∀ (tmps : Array Value) (W : World), (results func tmps).run P W = .ok (.tuple #[]) W := by
  intro tmps W
  have : func.results = #[] := by apply Array.ext'; exact hres
  simp [results, this]
 let Fr : Int → Act → Prop := fun k a => a.defers = [] ∧ a.tmps.size = n ∧ a.tmps.getD 0 undef = yv ∧ a.tmps.getD 1 undef = vc ∧ a.tmps.getD 3 undef = .int .i64 k
 have mk3 : ∀ (j : Nat) (k : Int) (F : Nat → Prop) (W : World) (a : Act), J j F W → Fr k a → RepAt (X W F) (fun _ => none) F ⟨[(3, .v (.int .i64 k)), (1, .rp [.ro sz es]), (0, .v yv)], []⟩ a W := by
  rintro j k F W a hj ⟨h1, h2, h3, h4, h5⟩
  refine mk F W _ a (hJ j F W hj) h1 h2 (fun i => ?_)
  simp only [envGet]
  split
  ·rename_i e; subst e; rw [h5]; exact .f _ _ (.v _)
  ·split
   ·rename_i e; subst e; rw [h4]; exact .f _ _ (hJ j F W hj).1
   ·split
    ·rename_i e; subst e; rw [h3]; exact .f _ _ (.v _)
    ·exact .f _ _ (.any _)
 have hcs : ∀ {k F W cs}, J k F W → ∀ {i : Nat}, es[i]? = some cs → cs.length = sz := by
  intro k F W cs hj i hi
  have h1 := (hJ k F W hj).1
  cases h1 with
  | rp _ ad V _ _ hr =>
   obtain ⟨A, c, _, _, h4⟩ := RepV.rov (σ := fun _ => none) (.f _ _ (hr 0 _ rfl))
   obtain ⟨_, _, _, _, hl, _⟩ := h4 (fun e => by rw [e] at hi; simp at hi)
   exact hl cs (List.mem_of_getElem? hi)
 subst hroot
 refine wpIn_seq (wpIn_mono (Q := fun e a' w' => e = .normal ∧ w' = W ∧ Fr ((es.length : Int) - 1) a') ?_ ?_)
 ·refine wpIn_region_lit ?_
  obtain ⟨c, s', h1, h2, h3⟩ := q0 yv es hbig
  have e0 : (#[yv, vc] ++ Array.replicate (func.ntmps - (#[yv, vc] : Array Value).size) undef).getD 0 undef = yv := by
   rw [Array.getD_eq_getD_getElem?, Array.getElem?_append_left (by simp)]; rfl
  have e1 : (#[yv, vc] ++ Array.replicate (func.ntmps - (#[yv, vc] : Array Value).size) undef).getD 1 undef = vc := by
   rw [Array.getD_eq_getD_getElem?, Array.getElem?_append_left (by simp)]; rfl
  have hrep : RepAt (X W F0) (fun _ => none) F0 ⟨[(1, .rp [.ro sz es]), (0, .v yv)], []⟩ { tmps := #[yv, vc] ++ Array.replicate (func.ntmps - (#[yv, vc] : Array Value).size) undef, defers := [] } W := by
   refine mk F0 W _ _ (hJ _ F0 W h0) rfl (by simp [hn]; omega) (fun i => ?_)
   simp only [envGet]
   split
   ·rename_i e; subst e; rw [e1]; exact .f _ _ (hJ _ F0 W h0).1
   ·split
    ·rename_i e; subst e; rw [e0]; exact .f _ _ (.v _)
    ·exact .f _ _ (.any _)
  have := Z37 (ops := r0.toArray) (rest := []) (Q := fun e a' w' => e = .normal ∧ w' = W ∧ Fr ((es.length : Int) - 1) a') hT r0 _ _ c hrep h1 h2 hk0 (fun a' g1 g2 g3 g4 => by
   refine ⟨rfl, rfl, g2, g1.size, g3.trans e0, g4.trans e1, ?_⟩
   have := (g1.le h3).env 3
   exact RepV.val this)
  rwa [List.append_nil] at this
 ·rintro e a1 w1 ⟨rfl, rfl, hfr⟩
  simp only [Exit.then]
  refine wpIn_block (Z2e (fun m a w => ∃ F, J m F w ∧ Fr ((m : Int) - 1) a ∧ m ≤ es.length) es.length ⟨F0, h0, hfr, Nat.le_refl _⟩ ?_)
  rintro m a w ⟨F, hj, hfr, hml⟩
  obtain ⟨c, s', h1, h2, h3⟩ := q1 yv es ((m : Int) - 1)
  refine wpIn_seq (wpIn_seq (wpIn_mono (Q := fun e a' w' => e = .normal ∧ w' = w ∧ Fr ((m : Int) - 1) a' ∧ a'.tmps.getD 8 undef = .bool (decide (0 ≤ (m : Int) - 1))) ?_ ?_))
  ·refine wpIn_region_lit ?_
   have := Z37 (ops := r1.toArray) (rest := []) (Q := fun e a' w' => e = .normal ∧ w' = w ∧ Fr ((m : Int) - 1) a' ∧ a'.tmps.getD 8 undef = .bool (decide (0 ≤ (m : Int) - 1))) hT r1 _ _ c (mk3 m _ F w a hj hfr) h1 h2 hk1 (fun a' g1 g2 g3 g4 => by
    have g5 := g1.le h3
    exact ⟨rfl, rfl, ⟨g2.trans hfr.1, g1.size, g3.trans hfr.2.2.1, g4.trans hfr.2.2.2.1, RepV.val (g5.env 3)⟩, RepV.val (g5.env 8)⟩)
   rwa [List.append_nil] at this
  ·rintro e a2 w2 ⟨rfl, rfl, hfr2, h8⟩
   simp only [Exit.then]
   refine wpIn_cond_split (show a2.eval (.tmp 8) = .bool (decide (0 ≤ (m : Int) - 1)) from h8) (fun hb => ?_) (fun hb => ?_)
   ·have hm : 0 ≤ (m : Int) - 1 := of_decide_eq_true hb
    obtain ⟨k, rfl⟩ : ∃ k, m = k + 1 := ⟨m - 1, by omega⟩
    have hkk : ((k + 1 : Nat) : Int) - 1 = (k : Int) := by omega
    rw [hkk] at hfr2
    refine wpIn_skip ?_
    simp only [Exit.then]
    refine wpIn_seq (wpIn_block ?_)
    have hk : k < es.length := hml
    refine wpIn_seq (wpIn_region_lit ?_)
    obtain ⟨c3, s3, u1, u2, u3⟩ := q3 yv es k es[k] (List.getElem?_eq_getElem hk) (hcs hj (List.getElem?_eq_getElem hk))
    refine Z37 (rest := [oc, on]) hT r3 _ _ c3 (mk3 (k + 1) _ F w2 a2 hj hfr2) u1 u2 hk3 (fun a3 g1 g2 g3 g4 => ?_)
    have g5 := g1.le u3
    show (if Region.wanted oc (yielded _ a3.tmps) then oc.wpIn (fnc none) 0 P a3 w2 _ _ else _)
    rw [if_pos (by simp [Region.wanted, hocg])]
    refine ⟨fun _ _ => trivial, ?_⟩
    obtain ⟨fn, tmps, assign, body, hy, hR⟩ := hY k F w2 (a3.tmps.getD 16 undef) es[k] hj (List.getElem?_eq_getElem hk) (g5.env 16)
    have v11 : a3.tmps.getD 11 undef = yv := RepV.val (g5.env 11)
    have v12 : a3.tmps.getD 12 undef = .int .i64 (k : Int) := RepV.val (g5.env 12)
    have hrun : (execOp a3.eval oc).run P w2 = .ok (.round l fn tmps assign body) w2 := by
     have e11 : a3.eval (.tmp 11) = yv := v11
     have e12 : a3.eval (.tmp 12) = .int .i64 (k : Int) := v12
     have e16 : a3.eval (.tmp 16) = a3.tmps.getD 16 undef := rfl
     rw [Array.getD_eq_getD_getElem?] at hy e16
     simp [execOp, hoc, resolve, e11, e12, e16, yv, Deferred.ofValue, invoke, hy]
    rw [show (fnc none).round = none from rfl, Oper.semAt_none, hrun, Oper.uponIn_round]
    refine ⟨fun h => by simp [fnc, Fence.wide] at h, hR.mono ?_⟩
    have tail : ∀ (bb : Bool) (W' : World) (F' : Nat → Prop), (RepF F' W' (.rp [.ro sz es]) vc ∧ HRep (fun _ => none) F' W' []) → ∀ Q : Exit → Act → World → Prop,
      (∀ a', Fr (k : Int) a' → a'.tmps.getD 18 undef = .bool (!bb) → Q .normal a' W') → wpListIn (fnc none) 0 P (r3 ++ [oc, on]).toArray Q [on] (a3.put oc.dst (.bool bb)) W' := by
     intro bb W' F' hj' Q hQ
     have hr0 := (mk3 (k + 1) _ F w2 a2 hj hfr2)
     have sz3 : a3.tmps.size = n := g1.size
     have p3 : a3.tmps.getD 3 undef = .int .i64 (k : Int) := RepV.val (g5.env 3)
     have hput : ∀ i, (a3.put oc.dst (.bool bb)).tmps.getD i undef = if i = 17 then .bool bb else a3.tmps.getD i undef := fun i => by
      rw [hocd]
      simp only [Act.put]
      rw [getD_set _ _ _ _ _ (by rw [sz3]; omega)]
     obtain ⟨c4, s4, w1', w2', w3'⟩ := q4 yv es (k : Int) bb
     have hd3 : a3.defers = [] := g2.trans hfr2.1
     have hr4 : RepAt (X W' F') (fun _ => none) F' ⟨[(17, .v (.bool bb)), (3, .v (.int .i64 (k : Int))), (1, .rp [.ro sz es]), (0, .v yv)], []⟩ (a3.put oc.dst (.bool bb)) W' := by
      refine mk F' W' _ _ hj' (by rw [hocd]; exact hd3) (by rw [hocd]; simp [Act.put, sz3]) (fun i => ?_)
      rw [hput i]
      simp only [envGet]
      split
      ·exact .f _ _ (.v _)
      ·split
       ·rename_i e; subst e; rw [p3]; exact .f _ _ (.v _)
       ·split
        ·rename_i e; subst e; rw [g4, hfr2.2.2.2.1]; exact .f _ _ hj'.1
        ·split
         ·rename_i e; subst e; rw [g3, hfr2.2.2.1]; exact .f _ _ (.v _)
         ·exact .f _ _ (.any _)
     have := Z37 (ops := (r3 ++ [oc, on]).toArray) (rest := []) (Q := Q) hT [on] _ _ c4 hr4 w1' w2' hk4 (fun a4 f1 f2 f3 f4 => by
      have f5 := f1.le w3'
      refine hQ a4 ⟨f2.trans (by rw [hocd]; exact hd3), f1.size, f3.trans ?_, f4.trans ?_, RepV.val (f5.env 3)⟩ (RepV.val (f5.env 18))
      ·rw [hput 0, if_neg (by omega), g3, hfr2.2.2.1]
      ·rw [hput 1, if_neg (by omega), g4, hfr2.2.2.2.1])
     exact this
    rintro e W' (⟨rfl, F', hj'⟩ | ⟨rfl, hjx⟩)
    ·refine tail true W' F' (hJ _ _ _ hj') _ (fun a4 hfr4 h18 => ?_)
     simp only [Exit.then]
     refine wpIn_cond_split (show a4.eval (.tmp 18) = .bool (!true) from h18) (fun h => by cases h) (fun _ => wpIn_skip ?_)
     simp only [Exit.inBlock, Exit.then]
     refine wpIn_region_lit ?_
     obtain ⟨c5, s5, t1, t2, t3⟩ := q2 yv es k hbig hk
     have := Z37 (ops := r2.toArray) (rest := []) (Q := Exit.then (fun a' w' => ∃ n', n' < k + 1 ∧ ∃ F, J n' F w' ∧ Fr (↑n' - 1) a' ∧ n' ≤ es.length) (Exit.inBlock b0 (bodyPost P func fun e W' => ∃ v, e = Ending.returned v ∧ ((∃ F', J 0 F' W') ∨ Jx W')))) hT r2 _ _ c5 (mk3 k _ F' W' a4 hj' hfr4) t1 t2 hk2 (fun a5 f1 f2 f3 f4 => by
      have f5 := f1.le t3
      exact ⟨k, Nat.lt_succ_self k, F', hj', ⟨f2.trans hfr4.1, f1.size, f3.trans hfr4.2.2.1, f4.trans hfr4.2.2.2.1, RepV.val (f5.env 3)⟩, Nat.le_of_lt hk⟩)
     rwa [List.append_nil] at this
    ·obtain ⟨F', hj'⟩ := hJx W' hjx
     refine tail false W' F' hj' _ (fun a4 hfr4 h18 => ?_)
     simp only [Exit.then]
     refine wpIn_cond_split (show a4.eval (.tmp 18) = .bool (!false) from h18) (fun _ => wpIn_ret ?_) (fun h => by cases h)
     simp only [Exit.inBlock, Exit.then]
     exact ⟨hfr4.1, _, hres' _ _, _, rfl, .inr hjx⟩
   ·have hm : ¬ 0 ≤ (m : Int) - 1 := of_decide_eq_false hb
    obtain rfl : m = 0 := by omega
    refine wpIn_exit ?_
    simp only [Exit.then, Exit.inBlock, if_true]
    exact ⟨hfr2.1, _, hres' _ _, _, rfl, .inl ⟨F, hj⟩⟩
end
end Go.Proofs.YtcphmeggalaplaaDoor.Eng
set_option linter.unusedVariables false
namespace Go.Proofs.YtcphmeggalaplaaDoor.Eng
open Go
section
variable {α β γ : Type}
inductive Tr where
 | leaf
 | node (a b : Tr)
noncomputable def mix : Tr → Option β → Option β
 | .leaf, t => t
 | .node a b, t => both (mix a t) (mix b t)
theorem mix_eq : ∀ (s : Tr) (t : Option β), mix s t = t
 | .leaf, t => rfl
 | .node a b, t => by rw [mix, mix_eq a, mix_eq b]; exact Z5s t
theorem cb_t {x y : Option β} : cb true x y = x := rfl
theorem cb_f {x y : Option β} : cb false x y = y := rfl
theorem Z2 {p : Prop} [h : Decidable p] {x y : Option β} : cb (decide p) x y = if p then x else y := by
 by_cases hp : p <;> simp [hp, cb]
theorem Z5q {b : Bool} {x y : Option β} : cb (!b) x y = cb b y x := by cases b <;> rfl
theorem ob_s {a : α} {k : α → Option β} : ob (some a) k = k a := rfl
theorem Zdu {a : α} {f : α → Option β} {g : γ → Option β} : Z17 (.inl a) f g = f a := rfl
theorem Z4z {a : γ} {f : α → Option β} {g : γ → Option β} : Z17 (.inr a) f g = g a := rfl
theorem Ze {x : Int} {a : Option β} (h1 : -9223372036854775808 ≤ x) (h2 : x ≤ 9223372036854775807) : ck (InR x) a = a := Z0 ⟨h1, h2⟩
theorem rd_nat (d : α) (xs : List α) (k : Nat) : rd d xs (k : Int) = xs.getD k d := rfl
theorem rd_some {d : α} {xs : List α} {k : Nat} {x : α} (h : xs[k]? = some x) : rd d xs (k : Int) = x := by rw [rd_nat, List.getD, h]; rfl
theorem Zg {d : α} {xs : List α} {k : Nat} (h : k < xs.length) : rd d xs (k : Int) = xs[k] := rd_some (List.getElem?_eq_getElem h)
theorem Z1 {X R : Type} {f : X → Option (X ⊕ R)} {x : X} {r : R} (h : f x = some (.inr r)) : Zl f x = some r := by rw [Z8z, h]
theorem Z4 {X R : Type} {f : X → Option (X ⊕ R)} {x x' : X} (h : f x = some (.inl x')) : Zl f x = Zl f x' := by rw [Z8z, h]
end
end Go.Proofs.YtcphmeggalaplaaDoor.Eng
set_option linter.unusedVariables false
set_option linter.unusedSimpArgs false
namespace Go.Proofs.YtcphmeggalaplaaDoor.Eng
open Go Go.RowKit
def tyLB (S : Nat → Ty → Bool) : List Nat → Ty → Bool
 | [e], ty => S e ty
 | e :: e2 :: r, .pair a b => S e a && tyLB S (e2 :: r) b
 | _, _ => false
def tyB (T : Tab) : Nat → Nat → Ty → Bool
 | 0, _, _ => false
 | m + 1, t, .int k => (match T t with | some ⟨.int k', _, _, _⟩ => decide (k' = k) | _ => false)
 | m + 1, t, .byte => (match T t with | some ⟨.int k', _, _, _⟩ => decide (k' = .u8) | _ => false)
 | m + 1, t, .bool => (match T t with | some ⟨.bool, _, _, _⟩ => true | _ => false)
 | m + 1, t, .str => (match T t with | some ⟨.str, _, _, _⟩ => true | _ => false)
 | m + 1, t, .slice u => (match T t with | some ⟨.slice e, _, _, _⟩ => (match T e with | some i => decide (i.size = u.size) && tyB T m e u | none => false) | _ => false)
 | m + 1, t, .one u => (match T t with | some ⟨.struct fs, _, _, _⟩ => tyLB (tyB T m) (fs.map (·.2)) u | _ => false)
 | m + 1, t, .pair a b => (match T t with | some ⟨.struct fs, _, _, _⟩ => tyLB (tyB T m) (fs.map (·.2)) (.pair a b) | _ => false)
 | m + 1, _, .ptr _ => false
 | m + 1, _, .nilS => false
 | m + 1, _, .nilI => false
 | m + 1, _, .adr => false
 | m + 1, _, .mp _ => false
 | m + 1, _, .mq _ => false
 | m + 1, _, .fnc _ => false
 | m + 1, _, .clo _ _ => false
 | m + 1, _, .ref _ => false
def InL (S : Nat → (ty : Ty) → ty.den → Prop) : List Nat → (ty : Ty) → ty.den → Prop
 | [e], ty, x => S e ty x
 | e :: e2 :: r, .pair a b, x => S e a x.1 ∧ InL S (e2 :: r) b x.2
 | _, _, _ => True
def InD (T : Tab) : Nat → Nat → (ty : Ty) → ty.den → Prop
 | 0, _, _, _ => True
 | m + 1, t, .int k, x => (Lit.int k x).wf = true
 | m + 1, t, .str, x => ByteArray.size x ≤ reachBytes
 | m + 1, t, .slice u, xs => (match T t with | some ⟨.slice e, _, _, _⟩ => (match T e with | some i => List.length xs * i.bytes ≤ reachBytes ∧ ∀ x : u.den, List.Mem x xs → InD T m e u x | none => True) | _ => True)
 | m + 1, t, .one u, x => (match T t with | some ⟨.struct fs, _, _, _⟩ => InL (InD T m) (fs.map (·.2)) u x | _ => True)
 | m + 1, t, .pair a b, x => (match T t with | some ⟨.struct fs, _, _, _⟩ => InL (InD T m) (fs.map (·.2)) (.pair a b) x | _ => True)
 | _, _, _, _ => True
theorem Zbh {S : Nat → List AV → Prop} {B : Nat → Ty → Bool} {D : Nat → (ty : Ty) → ty.den → Prop} (h : ∀ e ty xs, B e ty = true → S e xs → ∃ x : ty.den, xs = ty.cells x ∧ D e ty x) :
  ∀ (es : List Nat) (ty : Ty) (xs : List AV), tyLB B es ty = true → Zel S es xs → ∃ x : ty.den, xs = ty.cells x ∧ InL D es ty x := by
 intro es
 induction es with
 | nil => intro ty xs hb _; cases ty <;> cases hb
 | cons e r ih =>
  intro ty xs hb hs
  obtain ⟨a, b, rfl, ha, hb'⟩ := hs
  cases r with
  | nil =>
   have e0 : b = [] := hb'
   subst e0
   have hb2 : B e ty = true := by cases ty <;> exact hb
   obtain ⟨x, h1, h2⟩ := h e ty a hb2 ha
   refine ⟨x, by rw [h1, List.append_nil], ?_⟩
   cases ty <;> exact h2
  | cons e2 r =>
   cases ty with
   | pair p q =>
    simp only [tyLB, Bool.and_eq_true] at hb
    obtain ⟨x, h1, h2⟩ := h e p a hb.1 ha
    obtain ⟨y, h3, h4⟩ := ih q b hb.2 hb'
    exact ⟨(x, y), by rw [h1, h3]; rfl, h2, h4⟩
   | int _ => cases hb
   | byte => cases hb
   | bool => cases hb
   | str => cases hb
   | slice _ => cases hb
   | one _ => cases hb
   | ptr _ => cases hb
   | nilS => cases hb
   | nilI => cases hb
   | adr => cases hb
   | mp t => cases hb
   | mq t => cases hb
   | fnc _ => cases hb
   | clo _ _ => cases hb
   | ref _ => cases hb
theorem Zhf {u : Ty} {D : u.den → Prop} : ∀ {es : List (List AV)}, (∀ c ∈ es, ∃ x : u.den, c = u.cells x ∧ D x) → ∃ l : List u.den, es = l.map u.cells ∧ ∀ x ∈ l, D x
 | [], _ => ⟨[], rfl, fun x h => by cases h⟩
 | c :: es, h => by
  obtain ⟨a, rfl, ha⟩ := h c (List.mem_cons_self ..)
  obtain ⟨l, rfl, hl⟩ := Zhf (D := D) (fun c hc => h c (List.mem_cons_of_mem _ hc))
  refine ⟨a :: l, rfl, fun x hx => ?_⟩
  rcases List.mem_cons.1 hx with rfl | hx
  ·exact ha
  ·exact hl x hx
theorem Z9l {T : Tab} : ∀ (m t : Nat) (ty : Ty) (xs : List AV), tyB T m t ty = true → ShapeC T m t xs → ∃ x : ty.den, xs = ty.cells x ∧ InD T m t ty x
 | 0, _, _, _, h, _ => by cases h
 | m + 1, t, ty, xs, h, hs => by
  have ih := Z9l (T := T) m
  unfold ShapeC at hs
  cases ty with
  | int k =>
   simp only [tyB] at h
   split at h
   ·rename_i ht
    rw [ht] at hs
    obtain ⟨n, rfl, hn⟩ := hs
    rw [of_decide_eq_true h] at hn ⊢
    exact ⟨n, rfl, hn⟩
   ·cases h
  | byte =>
   simp only [tyB] at h
   split at h
   ·rename_i ht
    rw [ht] at hs
    obtain ⟨n, rfl, hn⟩ := hs
    rw [of_decide_eq_true h] at hn ⊢
    have hn2 : 0 ≤ n ∧ n < 256 := by
     have h3 : decide (IntKind.u8.min ≤ n) && decide (n ≤ IntKind.u8.max) := hn
     rw [Bool.and_eq_true, decide_eq_true_eq, decide_eq_true_eq] at h3
     have e1 : IntKind.u8.min = 0 := rfl
     have e2 : IntKind.u8.max = 255 := rfl
     omega
    refine ⟨UInt8.ofNat n.toNat, ?_, trivial⟩
    have : ((UInt8.toNat (UInt8.ofNat n.toNat) : Nat) : Int) = n := by
     rw [UInt8.toNat_ofNat']
     omega
    simp only [Ty.cells]
    rw [this]
   ·cases h
  | bool =>
   simp only [tyB] at h
   split at h
   ·rename_i ht
    rw [ht] at hs
    obtain ⟨n, rfl⟩ := hs
    exact ⟨n, rfl, trivial⟩
   ·cases h
  | str =>
   simp only [tyB] at h
   split at h
   ·rename_i ht
    rw [ht] at hs
    obtain ⟨n, rfl, hn⟩ := hs
    exact ⟨n, rfl, hn⟩
   ·cases h
  | slice u =>
   simp only [tyB] at h
   split at h
   ·rename_i e _ _ _ ht
    simp only [ht] at hs
    split at h
    ·rename_i i hi
     simp only [hi] at hs
     obtain ⟨es, rfl, h1, h2⟩ := hs
     rw [Bool.and_eq_true, decide_eq_true_eq] at h
     obtain ⟨l, rfl, hl⟩ := Zhf (u := u) (fun c hc => ih e u c h.2 (h2 c hc))
     refine ⟨l, by rw [h.1]; rfl, ?_⟩
     simp only [InD, ht, hi]
     exact ⟨by simpa using h1, hl⟩
    ·cases h
   ·cases h
  | one u =>
   simp only [tyB] at h
   split at h
   ·rename_i ht
    simp only [ht] at hs
    obtain ⟨x, h1, h2⟩ := Zbh ih _ u xs h hs
    exact ⟨x, h1, by simp only [InD, ht]; exact h2⟩
   ·cases h
  | pair a b =>
   simp only [tyB] at h
   split at h
   ·rename_i ht
    simp only [ht] at hs
    obtain ⟨x, h1, h2⟩ := Zbh ih _ (.pair a b) xs h hs
    exact ⟨x, h1, by simp only [InD, ht]; exact h2⟩
   ·cases h
  | ptr _ => cases h
  | nilS => cases h
  | nilI => cases h
  | adr => cases h
  | mp t => cases h
  | mq t => cases h
  | fnc _ => cases h
  | clo _ _ => cases h
  | ref _ => cases h
theorem Zg1 {T : Tab} {m t : Nat} {ty : Ty} {x : AV} (h : tyB T m t ty = true) (hs : Z9b T m t x) : ∃ y : ty.den, x = ty.av y ∧ InD T m t ty y := by
 unfold Z9b at hs
 cases m with
 | zero => cases h
 | succ m =>
  cases hagg : ty.isAgg with
  | true =>
   have : ∃ fs a b c, T t = some ⟨.struct fs, a, b, c⟩ := by
    cases ty with
    | one u => simp only [tyB] at h; split at h; (· rename_i ht; exact ⟨_, _, _, _, ht⟩); (· cases h)
    | pair u v => simp only [tyB] at h; split at h; (· rename_i ht; exact ⟨_, _, _, _, ht⟩); (· cases h)
    | int _ => cases hagg
    | byte => cases hagg
    | bool => cases hagg
    | str => cases hagg
    | slice _ => cases hagg
    | ptr _ => cases hagg
    | nilS => cases hagg
    | nilI => cases hagg
    | adr => cases hagg
    | mp t => cases hagg
    | mq t => cases hagg
    | fnc _ => cases hagg
    | clo _ _ => cases hagg
    | ref _ => cases hagg
   obtain ⟨fs, a, b, c, ht⟩ := this
   simp only [ht] at hs
   obtain ⟨xs, rfl, hx⟩ := hs
   obtain ⟨y, h1, h2⟩ := Z9l _ t ty xs h hx
   exact ⟨y, by rw [Ty.av_agg hagg, h1], h2⟩
  | false =>
   have hns : ∀ fs a b c, T t ≠ some ⟨.struct fs, a, b, c⟩ := by
    intro fs a b c ht
    cases ty with
    | one u => cases hagg
    | pair u v => cases hagg
    | ptr _ => cases h
    | nilS => cases h
    | nilI => cases h
    | adr => cases h
    | mp t => cases h
    | mq t => cases h
    | fnc _ => cases h
    | clo _ _ => cases h
    | ref _ => cases h
    | int _ => simp [tyB, ht] at h
    | byte => simp [tyB, ht] at h
    | bool => simp [tyB, ht] at h
    | str => simp [tyB, ht] at h
    | slice _ => simp [tyB, ht] at h
   split at hs
   ·rename_i ht; exact absurd ht (hns _ _ _ _)
   ·obtain ⟨y, h1, h2⟩ := Z9l _ t ty _ h hs
    rw [Ty.cells_leaf hagg] at h1
    exact ⟨y, by simpa using h1, h2⟩
def tyAB (T : Tab) (m : Nat) : List Nat → List Ty → Bool
 | [], [] => true
 | t :: ts, u :: us => tyB T m t u && tyAB T m ts us
 | _, _ => false
def InA (T : Tab) (m : Nat) : List Nat → (us : List Ty) → denL us → Prop
 | [t], [u], x => InD T m t u x
 | t :: ts, u :: v :: us, x => InD T m t u x.1 ∧ InA T m ts (v :: us) x.2
 | _, _, _ => True
theorem Zg2 {T : Tab} {m : Nat} : ∀ (ts : List Nat) (us : List Ty) (xs : List AV), tyAB T m ts us = true → Z9c T m ts xs → ∃ x : denL us, xs = avL us x ∧ InA T m ts us x := by
 intro ts
 induction ts with
 | nil =>
  intro us xs h hs
  cases us with
  | nil => exact ⟨(), hs, trivial⟩
  | cons u us => cases h
 | cons t ts ih =>
  intro us xs h hs
  obtain ⟨x, r, rfl, h1, h2⟩ := hs
  cases us with
  | nil => cases h
  | cons u us =>
   simp only [tyAB, Bool.and_eq_true] at h
   obtain ⟨y, rfl, hy⟩ := Zg1 h.1 h1
   obtain ⟨z, hz, hz2⟩ := ih us r h.2 h2
   cases us with
   | nil =>
    cases ts with
    | nil => exact ⟨y, by rw [hz]; rfl, hy⟩
    | cons _ _ => cases h.2
   | cons v us =>
    refine ⟨(y, z), by rw [hz]; rfl, ?_⟩
    cases ts with
    | nil => cases h.2
    | cons _ _ => exact ⟨hy, hz2⟩
theorem Zgv {P : Program} {T : Tab} {f m : Nat} {ts : List Nat} {us : List Ty} {run : denL us → Option Bool} (ok : FnOK P f ⟨us, [.bool], run⟩) (hty : tyAB T m ts us = true) (law : ∀ x, InA T m ts us x → run x = some true) (xs : List AV) (h : Z9c T m ts xs) : FPure P f xs (.v (.bool true)) := by
 obtain ⟨x, rfl, hx⟩ := Zg2 ts us xs hty h
 exact ok.2 x true (law x hx)
end Go.Proofs.YtcphmeggalaplaaDoor.Eng
set_option linter.unusedVariables false
set_option linter.unusedSimpArgs false
namespace Go.Proofs.YtcphmeggalaplaaDoor.Eng
open Go Go.RowKit
theorem FPure.of_callsR {P : Program} {f : Nat} {args : List Value} {r : Value} {R : AV} (hR : ∀ σ F w, RepV σ F w R r) (h : ∀ w : World, (∀ p ∈ LAID, ∃ e q, w.heap[p.1]? = some (.cells p.2 e q)) → Calls P f args.toArray w fun e w' => e = .returned r ∧ Below w.heap.size w w') : FPure P f (args.map AV.v) R := by
 intro σ F w vs hr hl hv
 have hvs : vs = args := by
  apply List.ext_getElem?
  intro j
  by_cases hj : j < args.length
  ·have hj2 : j < vs.length := by rw [← hl, List.length_map]; exact hj
   rw [List.getElem?_eq_getElem hj2, List.getElem?_eq_getElem hj]
   exact congrArg some (RepV.val (hv j (.v args[j]) vs[j] (by rw [List.getElem?_map, List.getElem?_eq_getElem hj]; rfl) (List.getElem?_eq_getElem hj2)))
  ·have hj2 : ¬ j < vs.length := by rw [← hl, List.length_map]; exact hj
   rw [List.getElem?_eq_none (by omega), List.getElem?_eq_none (by omega)]
 subst hvs
 have hno : ∀ id g, ¬ hasB σ id g := fun id g h => by
  obtain ⟨k, h, _⟩ := h
  rw [hr.out id (Nat.zero_le _)] at h; cases h
 refine (h w fun p hp => (hr.lay p hp).2).mono ?_
 rintro e w' ⟨rfl, hb⟩
 refine ⟨R, [], σ, F, r, ⟨rfl, rfl⟩, rfl, hR _ _ _, ⟨fun id o ho => by simp at ho, hr.out, hr.inj, fun id g h => absurd h (hno id g), fun b hb' => Nat.lt_of_lt_of_le (hr.flt b hb') hb.size, hr.lay.mono (fun _ h => h) (fun b hb' => hb.block b (hr.flt b hb'))⟩, ⟨hb.os, hb.tape, hb.output, hb.size, fun b hb' _ => hb.block b hb'⟩, fun id g h => absurd h (hno id g), fun b h => .inl h, fun id h => absurd h (Nat.not_lt_zero _), Nat.le_refl _⟩
theorem FPure.of_callsL {P : Program} {f : Nat} {args : List Value} {r : Value} (h : ∀ w : World, (∀ p ∈ LAID, ∃ e q, w.heap[p.1]? = some (.cells p.2 e q)) → Calls P f args.toArray w fun e w' => e = .returned r ∧ Below w.heap.size w w') : FPure P f (args.map AV.v) (.v r) :=
 FPure.of_callsR (fun _ _ _ => .f _ _ (.v _)) h
theorem FPure.of_calls {P : Program} {f : Nat} {args : List Value} {r : Value} (h : ∀ w : World, Calls P f args.toArray w fun e w' => e = .returned r ∧ Below w.heap.size w w') : FPure P f (args.map AV.v) (.v r) :=
 FPure.of_callsL fun w _ => h w
theorem FPure.of_callsS {P : Program} {f : Nat} {args : List Value} {r : Value} (h : ∀ w : World, Calls P f args.toArray w fun e w' => e = .returned r ∧ w' = w) : FPure P f (args.map AV.v) (.v r) :=
 FPure.of_calls fun w => (h w).mono fun e w' ⟨h1, h2⟩ => ⟨h1, h2 ▸ Below.refl _ _⟩
end Go.Proofs.YtcphmeggalaplaaDoor.Eng
set_option linter.unusedVariables false
set_option linter.unusedSimpArgs false
namespace Go.Proofs.YtcphmeggalaplaaDoor.Eng
open Go Go.RowKit
theorem FnOK.qq {P : Program} {C : Cx} (root : Code) {f : Nat} {func : Func} {fn : TFn} (hC : CxOK P C) (hf : P.funcs[f]? = some func) (L : List Nat → Option LE) (rs : List RV) (hL : LsOK P C root L) (hx : ∀ x, exF C L root [] (retK C fn.res rs) (Z35 fn.args x) = fn.run x) (hb : func.body = some root := by kernel_rfl) (hn : (func.name == "runtime.NumGoroutine") = false := by kernel_rfl) (hrs : func.results.toList = rs.map RV.var := by kernel_rfl) (hm : fn.args.length + (func.ntmps - fn.args.length) = C.n := by kernel_rfl) (hm0 : C.m = 0 := by rfl) : FnOK P f fn :=
 FnOK.of (L := L) (root := root) hC (enters_of hf hn hb) hf hb hrs hm hL hx hm0
end Go.Proofs.YtcphmeggalaplaaDoor.Eng
