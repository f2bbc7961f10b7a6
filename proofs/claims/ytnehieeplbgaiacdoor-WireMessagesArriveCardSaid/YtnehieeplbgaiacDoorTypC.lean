/-
  Part of a proof; nothing here is trusted.
-/
import Derived.Test.YtnehieeplbgaiacDoorTypB
import Derived.OrdersIn
import Derived.Test.YtnehieeplbgaiacDoorEngB
set_option linter.unusedVariables false
set_option linter.unusedSimpArgs false
namespace Go.Proofs.YtnehieeplbgaiacDoor.Eng
open Go Go.RowKit
theorem Z59 {α : Type} : ∀ (l : List α) (L i : Nat), L + 1 < l.length → (Z87 l L)[i]? = l[swpN L i]?
 | a :: b :: r, 0, i, _ => by
  match i with
  | 0 => rfl
  | 1 => rfl
  | i + 2 =>
   have : swpN 0 (i + 2) = i + 2 := by simp [swpN]
   rw [this]; rfl
 | [a], 0, _, h => by simp at h
 | [], _, _, h => by simp at h
 | a :: r, L + 1, i, h => by
  have h1 : L + 1 < r.length := by simpa using h
  have e : Z87 (a :: r) (L + 1) = a :: Z87 r L := by cases r <;> rfl
  rw [e]
  match i with
  | 0 => simp [swpN]
  | i + 1 =>
   have e2 : swpN (L + 1) (i + 1) = swpN L i + 1 := by
    unfold swpN
    by_cases h2 : i = L
    ·simp [h2]
    ·by_cases h3 : i = L + 1
     ·simp [h3]
     ·simp [h2, h3]
   rw [e2, List.getElem?_cons_succ, List.getElem?_cons_succ]
   exact Z59 r L i h1
theorem Z74 {α : Type} : ∀ (l : List α) (L : Nat), (Z87 l L).length = l.length
 | a :: b :: r, 0 => rfl
 | [a], 0 => rfl
 | [], 0 => rfl
 | [], _ + 1 => rfl
 | a :: r, L + 1 => by
  have e : Z87 (a :: r) (L + 1) = a :: Z87 r L := by cases r <;> rfl
  rw [e, List.length_cons, List.length_cons, Z74 r L]
theorem Z58 (L i : Nat) : swpN L (swpN L i) = i := by
 unfold swpN
 by_cases h2 : i = L
 ·simp [h2]
 ·by_cases h3 : i = L + 1
  ·simp [h3]
  ·simp [h2, h3]
theorem Zir {L i j : Nat} (h : swpN L i = swpN L j) : i = j := by rw [← Z58 L i, h, Z58]
theorem swpN_ge {L i n : Nat} (hL : L + 1 < n) (h : n ≤ i) : swpN L i = i := by
 unfold swpN
 simp [show i ≠ L by omega, show i ≠ L + 1 by omega]
theorem swpN_lt {L i : Nat} (h : i < L) : swpN L i = i := by
 unfold swpN
 simp [show i ≠ L by omega, show i ≠ L + 1 by omega]
def swpA (L : Nat) : AV → AV
 | .own i sz off len => .own (swpN L i) sz off len
 | .ptr i k sz j => .ptr (swpN L i) k sz j
 | .nm i k => .nm (swpN L i) k
 | x => x
section
variable {P : Program} {C : Cx} {X : Ctx} {σ : Nat → Option Blk} {F : Nat → Prop} {a : Act} {w : World} {β : Type}
theorem Rep.swap {s : St} {L : Nat} (hm : X.m ≤ L) (hL : L + 1 < s.heap.length) (hr : Rep X s a w) : Rep X ⟨Zo (swpA L) s.env, Z87 (s.heap.map (AObj.sub (swpA L))) L⟩ a w := by
 obtain ⟨σ, F, hr⟩ := hr
 have hσ : ∀ i, (fun i => σ (swpN L i)) (swpN L i) = σ i := fun i => by simp only [Z58]
 have hV : ∀ x y, RepV σ F w x y → RepV (fun i => σ (swpN L i)) F w (x.sub (swpA L)) y := by
  intro x y h
  refine h.sub (fun _ _ h => h) (fun id sz off len y h => ?_) (fun id i sz j y h => ?_) (fun id q y h => ?_)
  ·simp only [swpA]
   cases h with
   | f _ _ h => cases h
   | own0 _ _ h => exact .own0 _ _ ((hσ _).trans h)
   | own _ _ _ _ g b c n h hn hc => exact .own _ _ _ _ g b c n ((hσ _).trans h) hn hc
   | ownz _ _ _ g b c n a h hn hc => exact .ownz _ _ _ g b c n a ((hσ _).trans h) hn hc
  ·simp only [swpA]
   cases h with
   | f _ _ h => cases h
   | ptr _ _ _ _ g b c n h => exact .ptr _ _ _ _ g b c n ((hσ _).trans h)
  ·simp only [swpA]
   cases h with
   | f _ _ h => cases h
   | nm _ _ gs V h h1 => exact .nm _ _ gs V ((hσ _).trans h) h1
 have hlen : (Z87 (s.heap.map (AObj.sub (swpA L))) L).length = s.heap.length := by rw [Z74, List.length_map]
 refine ⟨fun i => σ (swpN L i), F, hr.defers, hr.size, fun i => by rw [Zn]; exact hV _ _ (hr.env i), ⟨fun id ob ho => ?_, fun id hid => ?_, fun id id' g h1 h2 => Zir (hr.heap.inj _ _ _ h1 h2), fun id g h => hr.heap.lt _ _ h, hr.heap.flt, hr.heap.lay⟩, hr.keep, fun id g h => hr.own _ _ h, hr.fnew, fun id hid => by simp only [swpN_lt (show id < L by omega)]; exact hr.stab id hid, by rw [hlen]; exact hr.hm⟩
 ·rw [Z59 _ _ _ (by rw [List.length_map]; exact hL), List.getElem?_map, Option.map_eq_some_iff] at ho
  obtain ⟨q, hq, rfl⟩ := ho
  exact (hr.heap.obj _ _ hq).ren rfl (fun _ _ h => h) (fun _ h => ⟨h, rfl⟩) (fun _ _ => rfl) hV
 ·rw [hlen] at hid
  simp only [swpN_ge hL hid]
  exact hr.heap.out _ hid
theorem Zdm {s : TSt} {L : Nat} (hm : X.m ≤ L) (hL : L + 1 < s.heap.length) : Imp X s.toSt (s.swap L).toSt := by
 intro a w hr
 have h1 := Rep.swap hm (L := L) (by simpa [TSt.toSt] using hL) hr
 have hrow : ∀ i, rowLen (s.swap L).heap (swpN L i) = rowLen s.heap i := fun i => by
  unfold rowLen
  rw [Z3, Z3]
  simp only [TSt.swap]
  rw [Z59 _ _ _ (by rw [List.length_map]; exact hL), Z58, List.getElem?_map]
  cases s.heap[i]? with
  | none => rfl
  | some q => cases q <;> rfl
 have ok : SubOK (swpA L) (swpS L) s.heap (s.swap L).heap := by
  refine ⟨fun i sz => ?_, fun i sz off len => .refl _, fun i k sz j => .refl _, fun i k => .refl _⟩
  simp only [swpA, swpS, SV.toAV]
  rw [hrow]; exact .refl _
 refine h1.weak ⟨fun i => ?_, ?_, fun i o o' ho ho' => ?_⟩
 ·simp only [Zn, TSt.toSt, Zf, TSt.swap]
  rw [Z1t (SV.sub (swpS L)) rfl]
  exact Z8f ok _
 ·simp [TSt.toSt, TSt.swap, Z74]
 ·simp only [TSt.toSt] at ho ho'
  rw [Z59 _ _ _ (by simpa using hL), List.getElem?_map, List.getElem?_map] at ho
  simp only [List.getElem?_map] at ho'
  have e : (s.swap L).heap[i]? = (s.heap[swpN L i]?).map (TObj.sub (swpS L)) := by
   simp only [TSt.swap]
   rw [Z59 _ _ _ (by rw [List.length_map]; exact hL), List.getElem?_map]
  rw [e] at ho'
  cases hq : s.heap[swpN L i]? with
  | none => rw [hq] at ho; cases ho
  | some q =>
   rw [hq] at ho ho'
   simp only [Option.map_some] at ho ho'
   cases ho; cases ho'
   cases q with
   | box e cs => exact ⟨rfl, Z3y ok cs⟩
   | row e t xs => exact ObjLe.refl _
   | mapo t es => exact ObjLe.refl _
   | iter t es => exact ObjLe.refl _
   | lin e ei t part hole xs => exact ObjLe.refl _
   | dead => trivial
theorem Zfx (W : List Nat) (s : TSt) (L : Nat) : WFr W s (s.swap L) := by
 intro i _
 simp only [TSt.swap]
 rw [Z1t (SV.sub (swpS L)) rfl]
 exact ⟨fun h => by rw [h]; rfl, fun t x h => .inr (by rw [h]; rfl), fun t x h => .inr (by rw [h]; rfl), fun g h => .inr (by rw [h]; rfl)⟩
theorem Zdr (hC : CxOK P C) {o : Oper} {W : List Nat} (hd : ∀ d, o.dst = some d → d ∈ W) (hdst : dB C.n o.dst = true → dOK X.n o.dst) {s : TSt} {K : TSt → Option β} {r : β} (h : Z2i C false o K s = some r) : opWPG P X o (lk X K r W s) s.toSt := by
 unfold Z2i at h
 split at h
 ·rename_i e; cases e
 ·rename_i hb _
  have hd' := hdst hb
  split at h
  ·rename_i fop args ts ho'; exact Z2t hd (Zdi hC hd' ho') h
  ·rename_i e ho'; exact Z2t hd (Zal hC.T hd' ho') h
  ·rename_i e y ho'; exact Z2t hd (Zi7 hC.T hd' ho') h
  ·rename_i t parts ho'; exact Z2t hd (Zaf hC.T hd' ho') h
  ·rename_i t len parts ho'; exact Z2t hd (Z3s hC.T hd' ho') h
  ·rename_i t y z ho'; exact Z2t hd (Z41 hC.T hd' ho') h
  ·rename_i t ho'; exact Z2t hd (Z61 hC hd' ho') h
  ·rename_i t x k b ho'; exact Z2t hd (Z7h hC hd' ho') h
  ·rename_i t t' x ho'
   split at h
   ·rename_i y hy; exact Z2t hd (Z45 hC.T hd' ho' hy) h
   ·cases h
  ·cases h
 ·cases h
theorem Z70 {ops : Array Oper} {n : Nat} : ∀ (π : List (Nat × Bool)) (listed : Array Bool), Z71 ops n π listed = true → ∃ l', Z53 ops n π listed = some l' ∧ Z71 ops n [] l' = true
 | [], listed, h => ⟨listed, rfl, h⟩
 | (i, true) :: π, listed, h => by
  simp only [Z71, Bool.and_eq_true] at h
  obtain ⟨l', h1, h2⟩ := Z70 π _ h.2
  refine ⟨l', ?_, h2⟩
  simp only [Z53]
  rw [show (decide (i < n) && (Region.ready .any ops listed).contains i && Region.free .any ops listed i) = true by simp only [Bool.and_eq_true]; exact h.1]
  exact h1
 | (i, false) :: π, listed, h => by
  simp only [Z71, Bool.and_eq_true] at h
  obtain ⟨l', h1, h2⟩ := Z70 π _ h.2
  refine ⟨l', ?_, h2⟩
  simp only [Z53]
  rw [show (decide (i < n) && decide (Region.ready .any ops listed = [i])) = true by simp only [Bool.and_eq_true]; exact h.1]
  exact h1
theorem Zht (hC : CxOK P C) (hn : X.n = C.n) (hm : X.m = C.m) {l : List Oper} {d : Nat × List (Nat × Bool) × Option (Nat × List (Nat × Bool) × Nat × List (Nat × Bool))} {K : TSt → Option β} {s : TSt} {r : β} (hB : regB l.toArray d = true) (h : Zkb C l d K s = some r) :
  ∃ π, π.length = d.1 ∧ d.1 ≤ l.toArray.size ∧ Region.noSelect l.toArray = true ∧ Z7l .any l.toArray d.1 = true ∧ DrawJ P X l.toArray d.1 π (Array.replicate l.toArray.size false) (lk X K r (Zj l) s) s.toSt := by
 obtain ⟨n, π, t⟩ := d
 have tailOk : ∀ {listed : Array Bool} {s' : TSt}, Z71 l.toArray n [] listed = true → Z37 C l (Z7r l n) K s' = some r → WFr (Zj l) s s' → DrawJ P X l.toArray n [] listed (lk X K r (Zj l) s) s'.toSt := by
  intro listed s' hw hx hf
  refine DrawJ.nil hw ?_
  rw [Zab] at hx
  have h1 := Z5j hC hn hm l (l.drop n) K s' r (fun o ho => List.mem_of_mem_drop ho) hx
  intro Qc a w hK hr
  have h2 := h1 Qc a w (fun s2 a' w' ⟨s3, h3, h4, h5⟩ hr' => hK s2 a' w' ⟨s3, h3, h4, hf.trans h5 (fun _ h => h) (fun _ h => h)⟩ hr') hr
  simpa using h2
 cases t with
 | none =>
  simp only [regB, drawB, Bool.and_eq_true, decide_eq_true_eq] at hB
  obtain ⟨⟨⟨⟨hsel, hhd⟩, hl⟩, hn'⟩, hw⟩ := hB
  obtain ⟨l', hw1, hw2⟩ := Z70 _ _ hw
  refine ⟨π, hl, hn', hsel, hhd, ?_⟩
  have h1 := Z38 (r := r) (rest := []) (K' := lk X K r (Zj l) s) (s0 := s) hC hn hm hsel hhd π _ s hw1 h (.refl _ _) (fun s' hs' hf => tailOk hw2 hs' hf)
  rwa [List.append_nil] at h1
 | some t =>
  obtain ⟨i, π1, j, π2⟩ := t
  simp only [regB, Zkc, Bool.and_eq_true, decide_eq_true_eq] at hB
  obtain ⟨⟨⟨⟨⟨⟨⟨hsel, hhd⟩, hl⟩, hl2⟩, hn'⟩, hi⟩, hj⟩, hw⟩ := hB
  split at hw
  ·rename_i l' hw1
   simp only [Bool.and_eq_true, decide_eq_true_eq] at hw
   obtain ⟨⟨hr, hwi⟩, hwj⟩ := hw
   obtain ⟨li, hi1, hi2⟩ := Z70 _ _ hwi
   obtain ⟨lj, hj1, hj2⟩ := Z70 _ _ hwj
   refine ⟨π ++ (i, false) :: π1, by simp; omega, hn', hsel, hhd, ?_⟩
   refine Z38 (r := r) (K' := lk X K r (Zj l) s) (s0 := s) hC hn hm hsel hhd π _ s hw1 h (.refl _ _) (fun s' hs' hf => ?_)
   simp only [Zka, nthOp_eq] at hs'
   split at hs'
   ·rename_i oi oj hoi hoj
    split at hs'
    ·rename_i hgi hgj
     obtain ⟨h1, h2⟩ := Zca hs'
     have hoi' : l.toArray[i]? = some oi := by rw [List.getElem?_toArray]; exact hoi
     have hoj' : l.toArray[j]? = some oj := by rw [List.getElem?_toArray]; exact hoj
     have mi : oi ∈ l := List.mem_of_getElem? hoi
     have mj : oj ∈ l := List.mem_of_getElem? hoj
     refine DrawJ.two (rest' := π2) hoi' hoj' hi hj hr hgi hgj hl2 ?_ ?_
     ·refine (Zdr hC (fun d hd => Z1e mi hd) (fun hb => hn ▸ Z23 hb) h1).mono ?_
      rintro s2 ⟨s3, h3, h4, h5⟩
      have h6 := Z38 (r := r) (rest := []) (K' := lk X K r (Zj l) s) (s0 := s) hC hn hm hsel hhd π1 _ s3 hi1 h4 (hf.trans h5 (fun _ h => h) (fun _ h => h)) (fun s' hs' hf => tailOk hi2 hs' hf)
      rw [List.append_nil] at h6
      exact DrawJ.from h3 h6
     ·refine (Zdr hC (fun d hd => Z1e mj hd) (fun hb => hn ▸ Z23 hb) h2).mono ?_
      rintro s2 ⟨s3, h3, h4, h5⟩
      have h6 := Z38 (r := r) (rest := []) (K' := lk X K r (Zj l) s) (s0 := s) hC hn hm hsel hhd π2 _ s3 hj1 h4 (hf.trans h5 (fun _ h => h) (fun _ h => h)) (fun s' hs' hf => by
       unfold Zis at hs'
       split at hs'
       ·rename_i hle
        rw [Bool.and_eq_true] at hle
        exact DrawJ.from (Zdm (by rw [hm]; exact Nat.le_of_ble_eq_true hle.2) (Nat.le_of_ble_eq_true hle.1)) (tailOk hj2 hs' (hf.trans (Zfx _ _ _) (fun _ h => h) (fun _ h => h)))
       ·exact tailOk hj2 hs' hf)
      rw [List.append_nil] at h6
      exact DrawJ.from h3 h6
    ·cases hs'
   ·cases hs'
  ·cases hw
theorem oper_in {P : Program} {ro : Option Nat} {Q : Exit → Act → World → Prop} {K K' : Act → World → Prop} {o : Oper} (hd : ∀ c, o.op ≠ .defer c) (hk : ∀ a w, K a w → K' a w) {a : Act} {w : World} (h : o.wp P a w K Q) : o.wpIn (fnc ro) 0 P a w K' Q := by
 refine ⟨fun _ _ => trivial, ?_⟩
 rw [Oper.semAt_eq _ _ _ hd]
 unfold Oper.wp at h
 revert h
 cases (execOp a.eval o).run P w with
 | ok n w' =>
  cases n with
  | value v => exact fun h => hk _ _ h
  | skip => exact fun h => hk _ _ h
  | defer d => exact fun h => hk _ _ h
  | enter f args =>
   intro h
   refine ⟨fun e => (nomatch e), ?_⟩
   have h1 := (callsIn_wide (n := 0)).2 h
   exact CallsIn.mono (F := fnc ro) (n := 0) h1 fun e w'' he => by
    cases e with
    | returned v => exact hk _ _ he
    | panicked c => exact he
    | outgrown => exact he
  | row rw args =>
   intro h
   exact ⟨fun e => (nomatch e), fun c cs _ => let ⟨v, w', r, s⟩ := h c cs; ⟨v, w', hk _ _ r, stepsIn_wide.2 s⟩⟩
  | _ => exact fun h => h.elim
 | halt h' w' => cases h' <;> exact fun h => h
theorem Zgo {l : List Oper} (h : noDef l = true) : ∀ o ∈ l, ∀ c, o.op ≠ .defer c := by
 induction l with
 | nil => intro o ho; cases ho
 | cons x r ih =>
  rw [noDef, Bool.and_eq_true] at h
  intro o ho
  rcases List.mem_cons.1 ho with e | ho
  ·subst e; exact Zdz h.1
  ·exact ih h.2 o ho
theorem Zci {P : Program} {ro : Option Nat} {l : List Oper} {md : Region.Mode} {Q : Exit → Act → World → Prop} (hQ : ¬ LetsOut Q) (hd : noDef l = true) : ∀ (fuel : Nat) (listed : Array Bool) (a : Act) (w : World), wpAny P md l.toArray Q fuel listed a w → wpAnyIn (fnc ro) 0 P md l.toArray Q fuel listed a w
 | 0, listed, a, w, h => h
 | fuel + 1, listed, a, w, h => by
  refine ⟨h.1, fun i hi => ?_⟩
  have h2 := h.2 i hi
  unfold wpOp at h2
  unfold wpOpIn
  split at h2
  ·rename_i e
   simp only [e]
   exact Zci hQ hd fuel _ a w h2
  ·rename_i o e
   simp only [e]
   have hm : o ∈ l := by
    have : l[i]? = some o := by simpa using e
    exact List.mem_of_getElem? this
   split at h2
   ·rename_i hw
    rw [if_pos hw]
    rcases h2 with h2 | h2
    ·exact oper_in (Zgo hd o hm) (fun a w => Zci hQ hd fuel _ a w) h2
    ·exact absurd h2.2 hQ
   ·rename_i hw
    rw [if_neg hw]
    exact ⟨fun _ _ => trivial, Zci hQ hd fuel _ _ w h2⟩
theorem WP.draw2 {id : Nat} {Q : Exit → St → Prop} {l : List Oper} {n : Nat} {π : List (Nat × Bool)} {s : St} (hm : P.follows .mixedOrders = true) (hl : π.length = n) (hn : n ≤ l.toArray.size)
  (hQ : ∀ c s, ¬ Q (.panic c) s) (hro : X.ro = none ∨ noDef l = true)
  (h : DrawJ P X l.toArray n π (Array.replicate l.toArray.size false) (Q .normal) s) : WP P X (.region id l.toArray true) Q s := by
 intro a w hr
 rcases hro with hro | hd
 ·rw [WP.wide hro]
  refine wp_region_any hm ?_
  have inv0 : HeadInv .any l.toArray n (Array.replicate l.toArray.size false) :=
   ⟨by simp, fun j oj _ hl => (by rw [getD_replicate_false] at hl; cases hl), fun t _ ht => getD_in (by simpa using ht) (getD_replicate_false _ _)⟩
  have H := h (fun e a w => ∃ s, Q e s ∧ Rep X s a w) a { w with drawn := w.drawn + 1 } (fun c a b w ⟨s, h1, _⟩ => absurd h1 (hQ c s)) (fun s' a' w' h1 h2 => ⟨s', h1, h2⟩) hr.drawn inv0
  have hsz : l.toArray.size = π.length + (l.toArray.size - n) := by omega
  have H2 := Z5u (g := l.toArray.size - n) (fun listed a' w' hL => by
   have := wpAny_of_seq (md := .any) (Q' := fun e a w => ∃ s, Q e s ∧ Rep X s a w) (l.toArray.toList.drop n) n listed a' w' (fun j => by simp [List.getElem?_drop]) (by simpa using hL.1) hL.2
   simpa using this) _ _ _ _ H
  rwa [← hsz] at H2
 ·skip
  have inv0 : HeadInv .any l.toArray n (Array.replicate l.toArray.size false) :=
   ⟨by simp, fun j oj _ hl => (by rw [getD_replicate_false] at hl; cases hl), fun t _ ht => getD_in (by simpa using ht) (getD_replicate_false _ _)⟩
  have H := h (fun e a w => e = .normal ∧ ∃ s, Q .normal s ∧ Rep X s a w) a { w with drawn := w.drawn + 1 } (fun c a b w h => nomatch h.1) (fun s' a' w' h1 h2 => ⟨rfl, s', h1, h2⟩) hr.drawn inv0
  have hsz : l.toArray.size = π.length + (l.toArray.size - n) := by omega
  have H2 := Z5u (g := l.toArray.size - n) (fun listed a' w' hL => by
   have := wpAny_of_seq (md := .any) (Q' := fun e a w => e = .normal ∧ ∃ s, Q .normal s ∧ Rep X s a w) (l.toArray.toList.drop n) n listed a' w' (fun j => by simp [List.getElem?_drop]) (by simpa using hL.1) hL.2
   simpa using this) _ _ _ _ H
  rw [← hsz] at H2
  exact wpIn_mono (wpIn_region_any hm (Zci (ro := X.ro) (fun ⟨a, w, h⟩ => by cases h.1) hd _ _ _ _ H2)) (fun e a w ⟨he, s', h2, h3⟩ => by subst he; exact ⟨s', h2, h3⟩)
end
end Go.Proofs.YtnehieeplbgaiacDoor.Eng
set_option linter.unusedVariables false
set_option linter.unusedSimpArgs false
namespace Go.Proofs.YtnehieeplbgaiacDoor.Eng
open Go Go.RowKit
section
variable {P : Program} {C : Cx} {X : Ctx} {β : Type} {ops : Array Oper} {n : Nat} {listed : Array Bool} {K : St → Prop} {s : St}
def DrawT (P : Program) (X : Ctx) (ops : Array Oper) (n f : Nat) (listed : Array Bool) (K : St → Prop) (s : St) : Prop :=
 ∀ (Qc : Exit → Act → World → Prop) a w, (∀ c a b w, Qc (.panic c) a w → Qc (.panic c) b w) → (∀ s' a' w', K s' → Rep X s' a' w' → Qc .normal a' w') → Rep X s a w → HeadInv .any ops n listed →
  anyT P .any ops Qc n (fun listed a w => Region.seqB .any ops (ops.size - n) n listed = true ∧ wpList P ops Qc (ops.toList.drop n) a w) f listed a w (fun _ => True)
theorem DrawT.nil (hw : Region.seqB .any ops (ops.size - n) n listed = true) (h : WPO P X ops (ops.toList.drop n) K s) : DrawT P X ops n 0 listed K s := by
 intro Qc a w hQ hK hr inv
 exact ⟨hw, h Qc a w hK hr⟩
theorem DrawT.from {s' : St} {f : Nat} (h : ∀ a w, Rep X s a w → Rep X s' a w) (k : DrawT P X ops n f listed K s') : DrawT P X ops n f listed K s :=
 fun Qc a w hQ hK hr inv => k Qc a w hQ hK (h a w hr) inv
theorem DrawT.take {i f : Nat} {o : Oper} (hi : ops[i]? = some o) (hs : Region.noSelect ops = true) (hh : Z7l .any ops n = true) (hin : i < n) (hr : (Region.ready .any ops listed).contains i = true) (hf : Region.free .any ops listed i = true)
  {x : AV} (hd : dOK X.n o.dst) (hy : ∀ σ F a w, RepAt X σ F s a w → ∃ v, YieldsIf P ops (fun _ => True) o v a ∧ RepV σ F w x v) (h : DrawT P X ops n f (listed.setIfInBounds i true) K (s.put o.dst x)) : DrawT P X ops n (f + 1) listed K s := by
 intro Qc a w hQ hK hrep inv
 obtain ⟨σ, F, hat⟩ := hrep
 obtain ⟨v, hv, hx⟩ := hy σ F a w hat
 have hr' : i ∈ Region.ready .any ops listed := by simpa using hr
 exact Z93 hi (Region.noSelect_spec hs) hh hin (fun _ _ _ h => Zb5 h) (fun c a w h => hQ c _ _ w h) f listed a w inv (Region.free_spec hi hf) hr' hv trivial
  (h Qc _ w hQ hK ⟨σ, F, hat.put hd hx⟩ (inv.set hr' hin))
def Branch (P : Program) (X : Ctx) (ops : Array Oper) (n f : Nat) (listed : Array Bool) (K : St → Prop) (s : St) (i : Nat) : Prop :=
 i < n ∧ ∃ o, ops[i]? = some o ∧ ∀ (Qc : Exit → Act → World → Prop) (next : Act → World → Prop) a w, (∀ s' a' w', DrawT P X ops n f (listed.setIfInBounds i true) K s' → Rep X s' a' w' → next a' w') → Rep X s a w →
  if Region.wanted o (yielded ops a.tmps) then o.wp P a w next Qc else next (a.put o.dst undef) w
theorem DrawT.all {f : Nat} (hne : Region.ready .any ops listed ≠ []) (h : ∀ i ∈ Region.ready .any ops listed, Branch P X ops n f listed K s i) : DrawT P X ops n (f + 1) listed K s := by
 intro Qc a w hQ hK hrep inv
 refine ⟨hne, fun j hj => ?_⟩
 obtain ⟨hjn, o, ho, hb⟩ := h j hj
 refine ⟨hjn, ?_⟩
 have h1 := hb Qc (fun a' w' => True ∧ anyT P .any ops Qc n (fun listed a w => Region.seqB .any ops (ops.size - n) n listed = true ∧ wpList P ops Qc (ops.toList.drop n) a w) f (listed.setIfInBounds j true) a' w' (fun _ => True)) a w
  (fun s' a' w' hd hr' => ⟨trivial, hd Qc a' w' hQ hK hr' (inv.set hj hjn)⟩) hrep
 unfold wpOp
 simp only [ho]
 split
 ·rename_i hw; rw [if_pos hw] at h1; exact .inl h1
 ·rename_i hw; rw [if_neg hw] at h1; exact h1
theorem Branch.from {s' : St} {f i : Nat} (h : ∀ a w, Rep X s a w → Rep X s' a w) (k : Branch P X ops n f listed K s' i) : Branch P X ops n f listed K s i := by
 obtain ⟨h1, o, h2, h3⟩ := k
 exact ⟨h1, o, h2, fun Qc next a w hn hr => h3 Qc next a w hn (h a w hr)⟩
end
section
variable {P : Program} {C : Cx} {X : Ctx} {β : Type}
theorem Zev (hC : CxOK P C) (hn : X.n = C.n) {l : List Oper} {o : Oper} {s' : TSt} {K : TSt → Option β} {r : β} (hst : Zaz C.T o.op = true) (hx : Z2i C true o K s' = some r) :
  dOK X.n o.dst ∧ ((∃ (x : SV) (v : AV), (∀ σ F a w, RepAt X σ F s'.toSt a w → ∃ u, (∀ w', (execOp a.eval o).run P w' = .ok (.value u) w') ∧ RepV σ F w v u) ∧ AV.le v (x.toAV s'.heap) ∧ K (s'.put o.dst x) = some r)) := by
 unfold Z2i at hx
 split at hx
 ·rename_i hd _
  refine ⟨hn ▸ Z23 hd, ?_⟩
  split at hx
  ·rename_i cnd p q ho'
   split at hx
   ·rename_i b hb
    obtain ⟨h1, h2⟩ := Z6b hx
    cases b with
    | true =>
     refine ⟨s'.ev p, s'.toSt.ev p, fun σ F a w hat => ?_, by rw [TSt.ev_ok]; exact .refl _, h1 rfl⟩
     have hv : a.eval cnd = .bool true := RepV.val ((show s'.toSt.ev cnd = AV.v (.bool true) by rw [TSt.ev_ok, Z3b hb]) ▸ hat.ev cnd)
     exact ⟨a.eval p, fun w' => by simp [execOp, ho', hv, asBool], hat.ev p⟩
    | false =>
     refine ⟨s'.ev q, s'.toSt.ev q, fun σ F a w hat => ?_, by rw [TSt.ev_ok]; exact .refl _, h2 rfl⟩
     have hv : a.eval cnd = .bool false := RepV.val ((show s'.toSt.ev cnd = AV.v (.bool false) by rw [TSt.ev_ok, Z3b hb]) ▸ hat.ev cnd)
     exact ⟨a.eval q, fun w' => by simp [execOp, ho', hv, asBool], hat.ev q⟩
   ·cases hx
  ·rename_i t parts ho'
   split at hx
   ·rename_i s1 x hb
    exact ⟨x, x.toAV s'.heap, Zc8 (X := X) hC.T ho' hb, .refl _, hx⟩
   ·cases hx
  ·have ht := Z6a (T := C.T) (s := s') (op := o.op)
   have fin : ∀ {x : SV} {c' : Prop} {x' : AV}, Zc C.T s'.toSt o.op = some (c', x') → c' → AV.le x' (x.toAV s'.heap) → K (s'.put o.dst x) = some r → _ := fun {x c' x'} he hc hle hk =>
    (⟨x, x', fun σ F a w hat => by
     obtain ⟨u, h1, h2⟩ := Zc1 (R := fun _ _ => True) (.inr hst) hC.T hat he hc
     exact ⟨u, fun w' => h1 w' trivial, h2⟩, hle, hk⟩ : ∃ (x : SV) (v : AV), (∀ σ F a w, RepAt X σ F s'.toSt a w → ∃ u, (∀ w', (execOp a.eval o).run P w' = .ok (.value u) w') ∧ RepV σ F w v u) ∧ AV.le v (x.toAV s'.heap) ∧ K (s'.put o.dst x) = some r)
   cases hq : exT1 C.T s' o.op with
   | bad => rw [hq] at hx; cases hx
   | ok x =>
    rw [hq] at hx ht
    obtain ⟨c', x', he, hc, hle⟩ := ht
    exact fin he hc hle hx
   | cond c x =>
    rw [hq] at hx ht
    obtain ⟨hc, hx⟩ := Z3r hx
    obtain ⟨c', x', he, hc, hle⟩ := ht hc
    exact fin he hc hle hx
 ·rename_i hf; cases hf
 ·cases hx
theorem Zda (hC : CxOK P C) (hn : X.n = C.n) (hm : X.m = C.m) {l : List Oper} {n : Nat} (hs : Region.noSelect l.toArray = true) (hh : Z7l .any l.toArray n = true) {tail : TSt → Option β} {r : β} {s0 : TSt} {K' : St → Prop}
  (hk : ∀ s' listed, tail s' = some r → WFr (Zj l) s0 s' → Region.seqB .any l.toArray (l.toArray.size - n) n listed = true → DrawT P X l.toArray n 0 listed K' s'.toSt) :
  ∀ (pl : Plan) (m : Bool) (f : Nat) (listed : Array Bool) (s : TSt), Z89 C.T l.toArray n pl m f listed = true → (pl.isNo = false → Zt C l tail pl s = some r) → WFr (Zj l) s0 s →
   (m = false → pl.isNo = false → DrawT P X l.toArray n f listed K' s.toSt) ∧ (∀ i ∈ pl.ids, ∃ f', f = f' + 1 ∧ Branch P X l.toArray n f' listed K' s.toSt i) := by
 intro pl
 induction pl with
 | done =>
  intro m f listed s hp hx hf
  simp only [Z89, Bool.and_eq_true, Bool.not_eq_true', decide_eq_true_eq] at hp
  obtain ⟨⟨_, rfl⟩, h3⟩ := hp
  exact ⟨fun _ _ => hk s listed (hx rfl) hf h3, fun i hi => by cases hi⟩
 | no =>
  intro m f listed s hp hx hf
  exact ⟨fun _ h => (by cases h), fun i hi => by cases hi⟩
 | swp k pr ih =>
  intro m f listed s hp hx hf0
  have hx := hx rfl
  simp only [Z89, Bool.and_eq_true, Bool.not_eq_true'] at hp
  obtain ⟨⟨hm0, hno⟩, hp⟩ := hp
  refine ⟨fun _ _ => ?_, fun i hi => by cases hi⟩
  simp only [Zt] at hx
  unfold Zis at hx
  split at hx
  ·rename_i hle
   rw [Bool.and_eq_true] at hle
   have hL : s.heap.length - k + 1 < s.heap.length := by have := Nat.le_of_ble_eq_true hle.1; omega
   exact DrawT.from (Zdm (by rw [hm]; exact Nat.le_of_ble_eq_true hle.2) hL) ((ih false f listed _ hp (fun _ => hx) (hf0.trans (Zfx _ _ _) (fun _ h => h) (fun _ h => h))).1 rfl hno)
  ·exact (ih false f listed s hp (fun _ => hx) hf0).1 rfl hno
 | take i pr ih =>
  intro m f listed s hp hx hf0
  have hx := hx rfl
  simp only [Z89, Bool.and_eq_true, Bool.not_eq_true'] at hp
  obtain ⟨hm0, hp⟩ := hp
  refine ⟨fun _ _ => ?_, fun i hi => by cases hi⟩
  cases f with
  | zero => cases hp
  | succ f =>
   simp only [Bool.and_eq_true, decide_eq_true_eq] at hp
   obtain ⟨⟨⟨⟨hin, hr⟩, hfree⟩, hst⟩, hp⟩ := hp
   simp only [Zt] at hx
   split at hx
   ·rename_i o hi
    have hi' : l.toArray[i]? = some o := by rw [List.getElem?_toArray, ← nthOp_eq]; exact hi
    rw [hi'] at hst
    have ho : o ∈ l := List.mem_of_getElem? (by rw [← nthOp_eq]; exact hi)
    have hdm : ∀ d, o.dst = some d → d ∈ Zj l := fun d hd => Z1e ho hd
    have ihs : ∀ {s' : TSt}, WFr (Zj l) s0 s' → Zt C l tail pr s' = some r → DrawT P X l.toArray n f (listed.setIfInBounds i true) K' s'.toSt := fun {s'} h1 h2 => by
     have hno : pr.isNo = false := by
      cases pr with
      | no => cases h2
      | _ => rfl
     exact (ih false f _ s' hp (fun _ => h2) h1).1 rfl hno
    have step : ∀ {s' : TSt}, WFr (Zj l) s0 s' → (∀ a w, Rep X s'.toSt a w → Region.wanted o (yielded l.toArray a.tmps) = true) → Z2i C true o (Zt C l tail pr) s' = some r → DrawT P X l.toArray n (f + 1) listed K' s'.toSt := by
     intro s' hf hwant hx
     obtain ⟨hd', x, v, hv, hle, hx⟩ := Zev (X := X) (l := l) hC hn hst hx
     refine DrawT.take hi' hs hh hin hr hfree hd' (x := x.toAV s'.heap) (fun σ F a w hat => ?_) ?_
     ·obtain ⟨u, h1, h2⟩ := hv σ F a w hat
      exact ⟨u, .inl ⟨hwant a w ⟨σ, F, hat⟩, fun w' _ => h1 w'⟩, RepV.le hle h2⟩
     ·rw [← TSt.put_ok]
      exact ihs (WFr.put hf hdm _) hx
    unfold Z1v at hx
    split at hx
    ·rename_i hg
     exact step hf0 (fun a w hr => by simp [Region.wanted, hg]) hx
    ·rename_i j want hg
     split at hx
     ·rename_i d hj
      have hj' : (l.toArray[j]?).bind (·.dst) = some d := by rw [List.getElem?_toArray, ← nthDst_eq]; exact hj
      have hdj := Z4a hj
      have wf1 : ∀ (v : SV), WFr (Zj l) s0 (s.put (some d) v) := fun v => WFr.put hf0 (fun i hi => by cases hi; exact hdj) v
      have skip : ∀ {s' : TSt}, WFr (Zj l) s0 s' → dOK X.n o.dst → (∀ a w, Rep X s'.toSt a w → Region.wanted o (yielded l.toArray a.tmps) = false) → Zt C l tail pr (s'.put o.dst undefS) = some r → DrawT P X l.toArray n (f + 1) listed K' s'.toSt := by
       intro s' hf hdst hno hx9
       have h9 := ihs (WFr.put hf hdm _) hx9
       rw [TSt.put_ok, Z47] at h9
       exact DrawT.take hi' hs hh hin hr hfree hdst (fun σ F a w hat => ⟨undef, .inr ⟨hno a w ⟨σ, F, hat⟩, rfl⟩, .f _ _ (.v _)⟩) h9
      split at hx
      ·rename_i hu hdn
       rw [Bool.and_eq_true] at hdn
       have hu' := Z4d hu
       refine skip hf0 (hn ▸ Z23 hdn.2) (fun a w hr => ?_) hx
       have h1 := Z24 hj' (hn ▸ of_decide_eq_true hdn.1) (by simp only [TSt.toSt, Zf]; rw [hu']; rfl) hr
       simp [Region.wanted, hg, h1]
      ·rename_i hu hdn
       rw [Bool.and_eq_true] at hdn
       have hdl : d < X.n := hn ▸ of_decide_eq_true hdn.1
       split at hx
       ·rename_i b hb
        obtain ⟨h1, h2⟩ := Z9y hx
        have known : ∀ {b' : Bool} {a : Act} {w : World}, Rep X (s.put (some d) (.cst (.bool b'))).toSt a w → yielded l.toArray a.tmps j = some b' := fun {b' a w} hr =>
         Z3d hj' hdl (s := (s.put (some d) (.cst (.bool b'))).toSt) (by simp only [TSt.toSt, Zf, TSt.put, tget, if_true]; rfl) hr
        by_cases e : b = want
        ·refine DrawT.from (Z2n (by rw [hb, e])) (step (wf1 _) (fun a w hr => ?_) (h1 e))
         simp [Region.wanted, hg, known hr]
        ·have e' : b = !want := by cases b <;> cases want <;> first | rfl | exact absurd rfl e
         refine DrawT.from (Z2n (b := !want) (by rw [hb, e'])) (skip (wf1 _) (hn ▸ Z23 hdn.2) (fun a w hr => ?_) (h2 e'))
         simp [Region.wanted, hg, known hr]
       ·cases hx
      ·cases hx
     ·cases hx
   ·cases hx
 | alt i pa pb iha ihb =>
  intro m f listed s hp hx hf0
  have hx := hx rfl
  simp only [Z89, Bool.and_eq_true] at hp
  obtain ⟨hrd, hp⟩ := hp
  cases f with
  | zero => cases hp
  | succ f =>
   simp only [Bool.and_eq_true, decide_eq_true_eq] at hp
   obtain ⟨⟨hin, hpa⟩, hpb⟩ := hp
   have hx2 : (match nthOp l i with
    | some o => Z1v C l o (Z6l C o (Zt C l tail pa)) (Zt C l tail pa) s
    | none => none) = some r ∧ (pb.isNo = false → Zt C l tail pb s = some r) := by
    simp only [Zt] at hx
    cases hb : pb.isNo with
    | true => rw [hb] at hx; exact ⟨hx, fun h => by cases h⟩
    | false => rw [hb] at hx; obtain ⟨h1, h2⟩ := Zca hx; exact ⟨h1, fun _ => h2⟩
   obtain ⟨hx1, hxb⟩ := hx2
   have hbr := (ihb true (f + 1) listed s hpb hxb hf0).2
   have hone : Branch P X l.toArray n f listed K' s.toSt i := by
    split at hx1
    ·rename_i o hi
     have hi' : l.toArray[i]? = some o := by rw [List.getElem?_toArray, ← nthOp_eq]; exact hi
     have ho : o ∈ l := List.mem_of_getElem? (by rw [← nthOp_eq]; exact hi)
     have hdm : ∀ d, o.dst = some d → d ∈ Zj l := fun d hd => Z1e ho hd
     have ihs : ∀ {s' : TSt}, WFr (Zj l) s0 s' → Zt C l tail pa s' = some r → DrawT P X l.toArray n f (listed.setIfInBounds i true) K' s'.toSt := fun {s'} h1 h2 => by
      have hno : pa.isNo = false := by
       cases pa with
       | no => cases h2
       | _ => rfl
      exact (iha false f _ s' hpa (fun _ => h2) h1).1 rfl hno
     have step : ∀ {s' : TSt}, WFr (Zj l) s0 s' → (∀ a w, Rep X s'.toSt a w → Region.wanted o (yielded l.toArray a.tmps) = true) → Z6l C o (Zt C l tail pa) s' = some r → Branch P X l.toArray n f listed K' s'.toSt i := by
      intro s' hf hwant hx
      refine ⟨hin, o, hi', fun Qc next a w hnx hr => ?_⟩
      rw [if_pos (hwant a w hr)]
      unfold Z6l at hx
      split at hx
      ·rename_i hd
       refine (Zfv hdm (Zhs hC hm (hn ▸ Z23 hd)) hx) Qc next a w (fun s2 a' w' hl hr' => ?_) hr
       obtain ⟨s1, h1, h2, h3⟩ := hl
       exact hnx _ _ _ (ihs (hf.trans h3 (fun _ h => h) (fun _ h => h)) h2) (h1 a' w' hr')
      ·cases hx
     unfold Z1v at hx1
     split at hx1
     ·rename_i hg
      exact step hf0 (fun a w hr => by simp [Region.wanted, hg]) hx1
     ·rename_i j want hg
      split at hx1
      ·rename_i d hj
       have hj' : (l.toArray[j]?).bind (·.dst) = some d := by rw [List.getElem?_toArray, ← nthDst_eq]; exact hj
       have hdj := Z4a hj
       have wf1 : ∀ (v : SV), WFr (Zj l) s0 (s.put (some d) v) := fun v => WFr.put hf0 (fun i hi => by cases hi; exact hdj) v
       have skip : ∀ {s' : TSt}, WFr (Zj l) s0 s' → dOK X.n o.dst → (∀ a w, Rep X s'.toSt a w → Region.wanted o (yielded l.toArray a.tmps) = false) → Zt C l tail pa (s'.put o.dst undefS) = some r → Branch P X l.toArray n f listed K' s'.toSt i := by
        intro s' hf hdst hno hx9
        have h9 := ihs (WFr.put hf hdm _) hx9
        rw [TSt.put_ok, Z47] at h9
        refine ⟨hin, o, hi', fun Qc next a w hnx hr => ?_⟩
        rw [if_neg (by simp [hno a w hr])]
        obtain ⟨σ, F, hr⟩ := hr
        exact hnx _ _ _ h9 ⟨σ, F, hr.put hdst (.f _ _ (.v _))⟩
       split at hx1
       ·rename_i hu hdn
        rw [Bool.and_eq_true] at hdn
        have hu' := Z4d hu
        refine skip hf0 (hn ▸ Z23 hdn.2) (fun a w hr => ?_) hx1
        have h1 := Z24 hj' (hn ▸ of_decide_eq_true hdn.1) (by simp only [TSt.toSt, Zf]; rw [hu']; rfl) hr
        simp [Region.wanted, hg, h1]
       ·rename_i hu hdn
        rw [Bool.and_eq_true] at hdn
        have hdl : d < X.n := hn ▸ of_decide_eq_true hdn.1
        split at hx1
        ·rename_i b hb
         obtain ⟨h1, h2⟩ := Z9y hx1
         have known : ∀ {b' : Bool} {a : Act} {w : World}, Rep X (s.put (some d) (.cst (.bool b'))).toSt a w → yielded l.toArray a.tmps j = some b' := fun {b' a w} hr =>
          Z3d hj' hdl (s := (s.put (some d) (.cst (.bool b'))).toSt) (by simp only [TSt.toSt, Zf, TSt.put, tget, if_true]; rfl) hr
         by_cases e : b = want
         ·refine Branch.from (Z2n (by rw [hb, e])) (step (wf1 _) (fun a w hr => ?_) (h1 e))
          simp [Region.wanted, hg, known hr]
         ·have e' : b = !want := by cases b <;> cases want <;> first | rfl | exact absurd rfl e
          refine Branch.from (Z2n (b := !want) (by rw [hb, e'])) (skip (wf1 _) (hn ▸ Z23 hdn.2) (fun a w hr => ?_) (h2 e'))
          simp [Region.wanted, hg, known hr]
        ·cases hx1
       ·cases hx1
      ·cases hx1
    ·cases hx1
   have hids : ∀ q ∈ (Plan.alt i pa pb).ids, ∃ f', f + 1 = f' + 1 ∧ Branch P X l.toArray n f' listed K' s.toSt q := by
    intro q hq
    rcases List.mem_cons.1 hq with rfl | hq
    ·exact ⟨f, rfl, hone⟩
    ·exact hbr q hq
   refine ⟨fun hm0 _ => ?_, hids⟩
   subst hm0
   rw [Bool.false_or] at hrd
   have hrd := of_decide_eq_true hrd
   refine DrawT.all (by rw [hrd]; simp) (fun q hq => ?_)
   rw [hrd] at hq
   obtain ⟨f', e, hb⟩ := hids q hq
   obtain rfl : f = f' := by omega
   exact hb
theorem WP.drawT {id : Nat} {Q : Exit → St → Prop} {l : List Oper} {n : Nat} {s : St} (hm : P.follows .mixedOrders = true) (hn : n ≤ l.toArray.size)
  (hQ : ∀ c s, ¬ Q (.panic c) s) (hro : X.ro = none ∨ noDef l = true)
  (h : DrawT P X l.toArray n n (Array.replicate l.toArray.size false) (Q .normal) s) : WP P X (.region id l.toArray true) Q s := by
 intro a w hr
 rcases hro with hro | hd
 ·rw [WP.wide hro]
  refine wp_region_any hm ?_
  have inv0 : HeadInv .any l.toArray n (Array.replicate l.toArray.size false) :=
   ⟨by simp, fun j oj _ hl => (by rw [getD_replicate_false] at hl; cases hl), fun t _ ht => getD_in (by simpa using ht) (getD_replicate_false _ _)⟩
  have H := h (fun e a w => ∃ s, Q e s ∧ Rep X s a w) a { w with drawn := w.drawn + 1 } (fun c a b w ⟨s, h1, _⟩ => absurd h1 (hQ c s)) (fun s' a' w' h1 h2 => ⟨s', h1, h2⟩) hr.drawn inv0
  have hsz : l.toArray.size = n + (l.toArray.size - n) := by omega
  have H2 := Z5u (g := l.toArray.size - n) (fun listed a' w' hL => by
   have := wpAny_of_seq (md := .any) (Q' := fun e a w => ∃ s, Q e s ∧ Rep X s a w) (l.toArray.toList.drop n) n listed a' w' (fun j => by simp [List.getElem?_drop]) (by simpa using hL.1) hL.2
   simpa using this) _ _ _ _ H
  rwa [← hsz] at H2
 ·skip
  have inv0 : HeadInv .any l.toArray n (Array.replicate l.toArray.size false) :=
   ⟨by simp, fun j oj _ hl => (by rw [getD_replicate_false] at hl; cases hl), fun t _ ht => getD_in (by simpa using ht) (getD_replicate_false _ _)⟩
  have H := h (fun e a w => e = .normal ∧ ∃ s, Q .normal s ∧ Rep X s a w) a { w with drawn := w.drawn + 1 } (fun c a b w h => nomatch h.1) (fun s' a' w' h1 h2 => ⟨rfl, s', h1, h2⟩) hr.drawn inv0
  have hsz : l.toArray.size = n + (l.toArray.size - n) := by omega
  have H2 := Z5u (g := l.toArray.size - n) (fun listed a' w' hL => by
   have := wpAny_of_seq (md := .any) (Q' := fun e a w => e = .normal ∧ ∃ s, Q .normal s ∧ Rep X s a w) (l.toArray.toList.drop n) n listed a' w' (fun j => by simp [List.getElem?_drop]) (by simpa using hL.1) hL.2
   simpa using this) _ _ _ _ H
  rw [← hsz] at H2
  exact wpIn_mono (wpIn_region_any hm (Zci (ro := X.ro) (fun ⟨a, w, h⟩ => by cases h.1) hd _ _ _ _ H2)) (fun e a w ⟨he, s', h2, h3⟩ => by subst he; exact ⟨s', h2, h3⟩)
theorem Zfi (hC : CxOK P C) (hn : X.n = C.n) (hm : X.m = C.m) {id : Nat} {l : List Oper} (hro : X.ro = none ∨ noDef l = true) {d : Nat × Plan} {K : TSt → Option β} {s : TSt} {r : β} (hB : regP C.T l.toArray d = true)
  (h : Zt C l (Z37 C l (Z7r l d.1) K) d.2 s = some r) :
  WP P X (.region id l.toArray true) (fun e s' => ∃ s1, Imp X s' s1.toSt ∧ e = .normal ∧ K s1 = some r ∧ WFr (Zj l) s s1) s.toSt := by
 obtain ⟨n, pl⟩ := d
 simp only [regP, Bool.and_eq_true, decide_eq_true_eq] at hB
 obtain ⟨⟨⟨hsel, hhd⟩, hn'⟩, hp⟩ := hB
 have hno : pl.isNo = false := by
  cases pl with
  | no => cases h
  | _ => rfl
 let Q : Exit → St → Prop := fun e s' => match e with
  | .normal => lk X K r (Zj l) s s'
  | _ => False
 have h1 := (Zda (r := r) (s0 := s) (K' := Q .normal) hC hn hm hsel hhd (tail := Z37 C l (Z7r l n) K) (fun s' listed hx hf hw => by
  refine DrawT.nil hw ?_
  rw [Zab] at hx
  have h1 := Z5j hC hn hm l (l.drop n) K s' r (fun o ho => List.mem_of_mem_drop ho) hx
  intro Qc a w hK hr
  have h2 := h1 Qc a w (fun s2 a' w' ⟨s3, h3, h4, h5⟩ hr' => hK s2 a' w' ⟨s3, h3, h4, hf.trans h5 (fun _ h => h) (fun _ h => h)⟩ hr') hr
  simpa using h2) pl false n _ s hp (fun _ => h) (.refl _ _)).1 rfl hno
 refine WP.mono (WP.drawT (P := P) (X := X) (id := id) (Q := Q) (l := l) hC.mixed hn' (fun c s h => h) hro (s := s.toSt) h1) (fun e s' hq => ?_)
 cases e with
 | normal =>
  obtain ⟨s1, h2, h3, h4⟩ := hq
  exact ⟨s1, h2, rfl, h3, h4⟩
 | _ => exact hq.elim
end
end Go.Proofs.YtnehieeplbgaiacDoor.Eng
set_option linter.unusedVariables false
set_option linter.unusedSimpArgs false
namespace Go.Proofs.YtnehieeplbgaiacDoor.Eng
open Go Go.RowKit
def writes : Code → List Nat
 | .region _ ops _ => Zj ops.toList
 | .seq a b => writes a ++ writes b
 | .cond _ a b => writes a ++ writes b
 | .block _ b => writes b
 | .loop b => writes b
 | _ => []
def plainC : Code → Bool
 | .region _ ops _ => noDef ops.toList
 | .seq a b => plainC a && plainC b
 | .cond _ a b => plainC a && plainC b
 | .block _ b => plainC b
 | .loop b => plainC b
 | .skip => true
 | .exit _ => true
 | .ret => true
 | _ => false
def FraOK (k : Bool) (X : Ctx) (c : Code) : Prop := match k with
 | false => X.ro = none ∧ X.rf = false
 | true => (X.ro = none ∧ X.rf = true) ∨ plainC c = true
def childC : Nat → Code → Option Code
 | 0, .seq a _ => some a
 | 1, .seq _ b => some b
 | 0, .cond _ a _ => some a
 | 1, .cond _ _ b => some b
 | 0, .block _ b => some b
 | 0, .loop b => some b
 | 0, .rangeFunc _ _ a _ => some a
 | 1, .rangeFunc _ _ _ b => some b
 | _, _ => none
def atC (root : Code) : List Nat → Option Code
 | [] => some root
 | i :: p => (match atC root p with
  | some c => childC i c
  | none => none)
def TW (P : Program) (X : Ctx) (c : Code) (s : TSt) (Q : Exit → TSt → Prop) : Prop := WP P X c (fun e s' => ∃ s1, Imp X s' s1.toSt ∧ Q e s1) s.toSt
def LoopOK (k : Bool) (P : Program) (C : Cx) (ent : Ent) (b : Code) : Prop :=
 ∀ (X : Ctx), X.n = C.n → X.m = C.m → FraOK k X b → ∀ (β : Type) (K : Exit → TSt → Option β) (s : TSt) (r : β), runL C ent K s = some r → TW P X (.loop b) s (fun e s1 => K e s1 = some r ∧ WFr (writes b) s s1)
def LoopOKM (P : Program) (C : Cx) (ent : EntM) (b : Code) : Prop :=
 ∀ (X : Ctx), X.n = C.n → X.m = C.m → FraOK false X b → ∀ (β : Type) (K : Exit → TSt → Option β) (s : TSt) (r : β), runM C ent K s = some r → TW P X (.loop b) s (fun e s1 => K e s1 = some r ∧ WFr (writes b) s s1)
def LoopOKR (P : Program) (C : Cx) (ent : EntR) (it : Operand) (ps : Array Tmp) (a b : Code) : Prop :=
 ∀ (X : Ctx), X.n = C.n → X.m = C.m → X.ro = none → X.rf = true → ∀ (β : Type) (K : Exit → TSt → Option β) (s : TSt) (r : β), runR C ent K s = some r → TW P X (.rangeFunc it ps a b) s (fun e s1 => K e s1 = some r ∧ WFr [] s s1)
def LoopOKE (k : Bool) (P : Program) (C : Cx) (e : LE) (c : Code) : Prop := match e with
 | .w ent => ∀ b, c = .loop b → LoopOK k P C ent b
 | .m ent => k = false ∧ ∀ b, c = .loop b → C.m = 0 ∧ LoopOKM P C ent b
 | .r ent => k = true ∧ ∀ it ps a b, c = .rangeFunc it ps a b → LoopOKR P C ent it ps a b
def LsOK (P : Program) (C : Cx) (root : Code) (L : List Nat → Option LE) (k : Bool := false) : Prop := ∀ p ent c, L p = some ent → atC root p = some c → LoopOKE k P C ent c
theorem FraOK.sub {k : Bool} {X : Ctx} {c d : Code} (h : FraOK k X c) (hp : plainC c = true → plainC d = true) : FraOK k X d := by
 cases k with
 | false => exact h
 | true => exact h.imp id hp
section
variable {P : Program} {C : Cx} {X : Ctx} {β : Type} {root : Code} {L : List Nat → Option LE}
theorem TW.mono {c : Code} {s : TSt} {Q Q' : Exit → TSt → Prop} (h : TW P X c s Q) (hq : ∀ e s, Q e s → Q' e s) : TW P X c s Q' := WP.mono h fun e s' ⟨s1, h1, h2⟩ => ⟨s1, h1, hq _ _ h2⟩
theorem TW.from {c : Code} {s s' : TSt} {Q : Exit → TSt → Prop} (hi : Imp X s.toSt s'.toSt) (h : TW P X c s' Q) : TW P X c s Q := WP.from hi h
theorem Zeb {k : Bool} (hC : CxOK P C) (hn : X.n = C.n) (hm : X.m = C.m) (hL : LsOK P C root L k) : ∀ (c : Code) (p : List Nat) (K : Exit → TSt → Option β) (s : TSt) (r : β), FraOK k X c → atC root p = some c → exF C L c p K s = some r → TW P X c s (fun e s1 => K e s1 = some r ∧ WFr (writes c) s s1) := by
 intro c
 induction c with
 | skip => exact fun p K s r _ _ h => WP.skip ⟨s, .refl _ _, h, .refl _ _⟩
 | exit id => exact fun p K s r _ _ h => WP.exit ⟨s, .refl _ _, h, .refl _ _⟩
 | ret => exact fun p K s r _ _ h => WP.ret ⟨s, .refl _ _, h, .refl _ _⟩
 | region id ops drawn =>
  intro p K s r hfr _ h
  simp only [exF] at h
  cases drawn with
  | false =>
   have h1 := Z5j hC hn hm ops.toList ops.toList (K .normal) s r (fun o ho => ho) h
   have := WP.region (P := P) (id := id) (l := ops.toList) (Q := fun e s' => ∃ s1, Imp X s' s1.toSt ∧ K e s1 = some r ∧ WFr (writes (.region id ops false)) s s1) h1 (by
    cases k with
    | false => exact .inl hfr.1
    | true => exact hfr.imp (fun h => h.1) (fun h => by simpa [plainC] using h))
   simpa [TW] using this
  | true =>
   have hro : X.ro = none ∨ noDef ops.toList = true := by
    cases k with
    | false => exact .inl hfr.1
    | true => exact hfr.imp (fun h => h.1) (fun h => by simpa [plainC] using h)
   simp only at h
   split at h
   ·rename_i d hD
    split at h
    ·rename_i hB
     have hB' : regB ops.toList.toArray d = true := by simpa using hB
     obtain ⟨π, hl, hn', _, _, h1⟩ := Zht (l := ops.toList) hC hn hm hB' h
     let Q : Exit → St → Prop := fun e s' => match e with
      | .normal => ∃ s1, Imp X s' s1.toSt ∧ K .normal s1 = some r ∧ WFr (writes (.region id ops true)) s s1
      | _ => False
     have h2 := WP.draw2 (P := P) (X := X) (id := id) (Q := Q) (l := ops.toList) hC.mixed hl hn' (fun c s h => h) hro (s := s.toSt) h1
     have h3 : WP P X (.region id ops true) Q s.toSt := by simpa using h2
     refine WP.mono h3 (fun e s' hq => ?_)
     cases e with
     | normal => exact hq
     | _ => exact hq.elim
    ·cases h
   ·split at h
    ·rename_i d hD
     split at h
     ·rename_i hB
      have hB' : regP C.T ops.toList.toArray d = true := by simpa using hB
      have h1 := Zfi (id := id) (l := ops.toList) hC hn hm hro hB' h
      have h3 : TW P X (.region id ops true) s (fun e s1 => K e s1 = some r ∧ WFr (Zj ops.toList) s s1) := by
       have := TW.mono (P := P) (X := X) (c := .region id ops.toList.toArray true) (s := s) (Q := fun e s1 => e = .normal ∧ K .normal s1 = some r ∧ WFr (Zj ops.toList) s s1) (Q' := fun e s1 => K e s1 = some r ∧ WFr (Zj ops.toList) s s1) h1 (fun e s1 hq => by obtain ⟨rfl, h5, h6⟩ := hq; exact ⟨h5, h6⟩)
       simpa using this
      exact h3
     ·cases h
    ·cases h
 | seq a b iha ihb =>
  intro p K s r hfr hat h
  simp only [exF] at h
  have h1 := iha (0 :: p) _ s r (hfr.sub fun h => (Bool.and_eq_true_iff.1 h).1) (by simp only [atC, hat]; rfl) h
  refine WP.seq (WP.mono h1 (fun e s' hq => ?_))
  obtain ⟨s1, h2, h3, h4⟩ := hq
  have inA : ∀ i, i ∉ writes (.seq a b) → i ∉ writes a := fun i hi h => hi (List.mem_append_left _ h)
  have inB : ∀ i, i ∉ writes (.seq a b) → i ∉ writes b := fun i hi h => hi (List.mem_append_right _ h)
  cases e with
  | normal =>
   refine WP.from h2 (WP.mono (ihb (1 :: p) K s1 r (hfr.sub fun h => (Bool.and_eq_true_iff.1 h).2) (by simp only [atC, hat]; rfl) h3) (fun e s' hq => ?_))
   obtain ⟨s2, h5, h6, h7⟩ := hq
   exact ⟨s2, h5, h6, h4.trans h7 inA inB⟩
  | _ => exact ⟨s1, h2, h3, h4.mono inA⟩
 | cond c a b iha ihb =>
  intro p K s r hfr hat h
  simp only [exF] at h
  split at h
  ·rename_i t ht
   obtain ⟨h1, h2⟩ := Z6b h
   have inA : ∀ i, i ∉ writes (.cond c a b) → i ∉ writes a := fun i hi h => hi (List.mem_append_left _ h)
   have inB : ∀ i, i ∉ writes (.cond c a b) → i ∉ writes b := fun i hi h => hi (List.mem_append_right _ h)
   refine WP.cond (t := t) (by rw [TSt.ev_ok, Z3b ht]) (fun e => ?_) (fun e => ?_)
   ·exact TW.mono (iha (0 :: p) K s r (hfr.sub fun h => (Bool.and_eq_true_iff.1 h).1) (by simp only [atC, hat]; rfl) (h1 e)) (fun e s1 hq => ⟨hq.1, hq.2.mono inA⟩)
   ·exact TW.mono (ihb (1 :: p) K s r (hfr.sub fun h => (Bool.and_eq_true_iff.1 h).2) (by simp only [atC, hat]; rfl) (h2 e)) (fun e s1 hq => ⟨hq.1, hq.2.mono inB⟩)
  ·cases h
 | block id b ih =>
  intro p K s r hfr hat h
  simp only [exF] at h
  have h1 := ih (0 :: p) _ s r (hfr.sub fun h => h) (by simp only [atC, hat]; rfl) h
  refine WP.block (WP.mono h1 (fun e s' hq => ?_))
  obtain ⟨s1, h2, h3, h4⟩ := hq
  cases e with
  | exit i =>
   simp only at h3
   simp only [Zek]
   split at h3
   ·rename_i hi
    rw [if_pos (of_decide_eq_true hi)]
    exact ⟨s1, h2, h3, h4⟩
   ·rename_i hi
    rw [if_neg (of_decide_eq_false hi)]
    exact ⟨s1, h2, h3, h4⟩
  | _ => exact ⟨s1, h2, h3, h4⟩
 | loop b _ =>
  intro p K s r hfr hat h
  simp only [exF] at h
  split at h
  ·rename_i ent hent
   exact hL p (.w ent) _ hent hat b rfl X hn hm (hfr.sub fun h => h) β K s r h
  ·rename_i ent hent
   obtain ⟨rfl, h1⟩ := hL p (.m ent) _ hent hat
   exact (h1 b rfl).2 X hn hm (hfr.sub fun h => h) β K s r h
  ·cases h
 | rangeFunc it ps a b _ _ =>
  intro p K s r hfr hat h
  simp only [exF] at h
  split at h
  ·rename_i ent hent
   obtain ⟨rfl, h1⟩ := hL p (.r ent) _ hent hat
   obtain ⟨h2, h3⟩ : X.ro = none ∧ X.rf = true := hfr.elim id (fun h => by cases h)
   exact h1 it ps a b rfl X hn hm h2 h3 β K s r h
  ·cases h
 | _ => intro p K s r _ _ h; simp [exF] at h
theorem WP.ghost {α : Type} {b : Code} {Q : Exit → St → Prop} (I : α → St) (Inv : α → Prop) (μ : α → Nat) (g0 : α) (h0 : Inv g0) (round : ∀ g, Inv g → WP P X b (Zip (fun s' => ∃ g', Imp X s' (I g') ∧ Inv g' ∧ μ g' < μ g) Q) (I g)) : WP P X (.loop b) Q (I g0) := by
 rintro a w hr
 refine Z3w (fun n a w => ∃ g, μ g = n ∧ Inv g ∧ Rep X (I g) a w) (μ g0) ⟨g0, rfl, h0, hr⟩ ?_
 rintro n a w ⟨g, rfl, hI, hr⟩
 refine wpIn_mono (round g hI a w hr) ?_
 rintro e a w ⟨s', h1, h2⟩
 cases e with
 | normal =>
  obtain ⟨g', hi, hI', hlt⟩ := h1
  exact ⟨μ g', hlt, g', rfl, hI', hi a w h2⟩
 | _ => exact ⟨s', h1, h2⟩
theorem memN_ok : ∀ (l : List Nat) (i : Nat), memN l i = true → i ∈ l
 | x :: r, i, h => by
  unfold memN at h
  by_cases hx : x = i
  ·subst hx; exact List.mem_cons_self ..
  ·rw [if_neg hx] at h; exact List.mem_cons_of_mem _ (memN_ok r i h)
def subN : List Nat → List Nat → Bool
 | [], _ => true
 | x :: r, l => memN l x && subN r l
theorem subN_ok : ∀ (l m : List Nat), subN l m = true → ∀ i ∈ l, i ∈ m
 | x :: r, m, h, i, hi => by
  simp only [subN, Bool.and_eq_true] at h
  rcases List.mem_cons.1 hi with rfl | hi
  ·exact memN_ok _ _ h.1
  ·exact subN_ok r m h.2 i hi
def Zs (l : List (Nat × SK)) : List Nat := l.map (·.1)
def apartN : List Nat → List Nat → Bool
 | [], _ => true
 | x :: r, l => !memN l x && apartN r l
theorem memN_not : ∀ (l : List Nat) (i : Nat), memN l i = false → i ∉ l
 | [], _, _ => by simp
 | x :: r, i, h => by
  unfold memN at h
  by_cases hx : x = i
  ·rw [if_pos hx] at h; cases h
  ·rw [if_neg hx] at h
   simp only [List.mem_cons, not_or]
   exact ⟨fun e => hx e.symm, memN_not r i h⟩
theorem apartN_ok : ∀ (l m : List Nat), apartN l m = true → ∀ i ∈ l, i ∉ m
 | x :: r, m, h, i, hi => by
  simp only [apartN, Bool.and_eq_true, Bool.not_eq_true'] at h
  rcases List.mem_cons.1 hi with rfl | hi
  ·exact memN_not _ _ h.1
  ·exact apartN_ok r m h.2 i hi
def preSlots : List PA → List Nat
 | [] => []
 | .nil d _ _ :: r => d :: preSlots r
 | .frz _ :: r => preSlots r
 | .nilB _ _ _ _ :: r => preSlots r
 | .lipB _ _ _ :: r => preSlots r
theorem Z2c {W : List Nat} : ∀ (l : List PA), (∀ i ∈ preSlots l, i ∈ W) → ∀ p ∈ l, ∀ d, p.slot = some d → d ∈ W
 | .nil d e t :: r, h, p, hp, d', hpe => by
  rcases List.mem_cons.1 hp with rfl | hp
  ·cases hpe; exact h d (List.mem_cons_self ..)
  ·exact Z2c r (fun i hi => h i (List.mem_cons_of_mem _ hi)) p hp d' hpe
 | .frz d :: r, h, p, hp, d', hpe => by
  rcases List.mem_cons.1 hp with rfl | hp
  ·cases hpe
  ·exact Z2c r h p hp d' hpe
 | .nilB b j e t :: r, h, p, hp, d', hpe => by
  rcases List.mem_cons.1 hp with rfl | hp
  ·cases hpe
  ·exact Z2c r h p hp d' hpe
 | .lipB b j ei :: r, h, p, hp, d', hpe => by
  rcases List.mem_cons.1 hp with rfl | hp
  ·cases hpe
  ·exact Z2c r h p hp d' hpe
def exitSlots : List (Exit × Shape) → List Nat
 | [] => []
 | p :: r => Zs p.2.slots ++ exitSlots r
def pureSl : List (Nat × SK) → List Nat
 | [] => []
 | (i, .val _) :: r => i :: pureSl r
 | (i, .rp _) :: r => i :: pureSl r
 | (i, .fn _) :: r => i :: pureSl r
 | (_, .own _ _) :: r => pureSl r
 | (_, .que _ _) :: r => pureSl r
 | (_, .ptr _ _) :: r => pureSl r
 | (_, .nm _ _) :: r => pureSl r
 | (_, .agg _) :: r => pureSl r
 | (_, .nil) :: r => pureSl r
 | (_, .inn _) :: r => pureSl r
 | (_, .clo _ _) :: r => pureSl r
def ownSl : List (Nat × SK) → List Nat
 | [] => []
 | (_, .val _) :: r => ownSl r
 | (_, .rp _) :: r => ownSl r
 | (_, .fn _) :: r => ownSl r
 | (i, .own _ _) :: r => i :: ownSl r
 | (i, .que _ _) :: r => i :: ownSl r
 | (i, .ptr _ _) :: r => i :: ownSl r
 | (i, .nm _ _) :: r => i :: ownSl r
 | (i, .agg _) :: r => i :: ownSl r
 | (i, .nil) :: r => i :: ownSl r
 | (i, .inn _) :: r => i :: ownSl r
 | (i, .clo _ _) :: r => i :: ownSl r
def pureEx : List (Exit × Shape) → List Nat
 | [] => []
 | p :: r => pureSl p.2.slots ++ pureEx r
def ownEx : List (Exit × Shape) → List Nat
 | [] => []
 | p :: r => ownSl p.2.slots ++ ownEx r
theorem slot_or : ∀ (l : List (Nat × SK)) (i : Nat), i ∈ Zs l → i ∈ pureSl l ∨ i ∈ ownSl l
 | (j, sk) :: r, i, hi => by
  rcases List.mem_cons.1 hi with h | h
  ·have h' : i = j := h
   subst h'
   cases sk <;> simp [pureSl, ownSl]
  ·rcases slot_or r i h with h | h <;> cases sk <;> simp [pureSl, ownSl, h]
theorem Z15 {env : List (Nat × SV)} {n : Nat} : ∀ (l : List (Nat × SK)) (i : Nat), Z7 env n l = true → i ∈ ownSl l → (∃ k sz, tget env i = .own k sz) ∨ (∃ k sz, tget env i = .ptr k 0 sz 0) ∨ (∃ k q, tget env i = .nm k q) ∨ (∃ cs, tget env i = .agg cs) ∨ (∃ f c cs, tget env i = .fn f (c :: cs)) ∨ ∃ c, tget env i = .cst c
 | (j, sk) :: r, i, hc, hi => by
  cases sk with
  | val t => exact Z15 r i hc hi
  | rp t => exact Z15 r i hc hi
  | fn g =>
   simp only [Z7] at hc
   split at hc
   ·simp only [Bool.and_eq_true] at hc; exact Z15 r i hc.2 hi
   ·cases hc
  | own k sz =>
   simp only [Z7] at hc
   split at hc
   ·rename_i k' sz' hg
    simp only [Bool.and_eq_true] at hc
    rcases List.mem_cons.1 hi with h | h
    ·subst h; exact .inl ⟨_, _, hg⟩
    ·exact Z15 r i hc.2 h
   ·cases hc
  | que k sz =>
   simp only [Z7] at hc
   split at hc
   ·rename_i k' sz' hg
    simp only [Bool.and_eq_true] at hc
    rcases List.mem_cons.1 hi with h | h
    ·subst h; exact .inl ⟨_, _, hg⟩
    ·exact Z15 r i hc.2 h
   ·cases hc
  | ptr k sz =>
   simp only [Z7] at hc
   split at hc
   ·rename_i k' sz' hg
    simp only [Bool.and_eq_true] at hc
    rcases List.mem_cons.1 hi with h | h
    ·subst h; exact .inr (.inl ⟨_, _, hg⟩)
    ·exact Z15 r i hc.2 h
   ·cases hc
  | nm k sz =>
   simp only [Z7] at hc
   split at hc
   ·rename_i k' sz' hg
    simp only [Bool.and_eq_true] at hc
    rcases List.mem_cons.1 hi with h | h
    ·subst h; exact .inr (.inr (.inl ⟨_, _, hg⟩))
    ·exact Z15 r i hc.2 h
   ·cases hc
  | inn k =>
   simp only [Z7] at hc
   split at hc
   ·rename_i k' q hg
    simp only [Bool.and_eq_true] at hc
    rcases List.mem_cons.1 hi with h | h
    ·subst h; exact .inr (.inr (.inl ⟨_, _, hg⟩))
    ·exact Z15 r i hc.2 h
   ·cases hc
  | agg cs =>
   simp only [Z7] at hc
   split at hc
   ·rename_i xs hg
    simp only [Bool.and_eq_true] at hc
    rcases List.mem_cons.1 hi with h | h
    ·subst h; exact .inr (.inr (.inr (.inl ⟨_, hg⟩)))
    ·exact Z15 r i hc.2 h
   ·cases hc
  | clo f cs =>
   simp only [Z7] at hc
   split at hc
   ·rename_i f' c xs hg
    simp only [Bool.and_eq_true] at hc
    rcases List.mem_cons.1 hi with h | h
    ·subst h; exact .inr (.inr (.inr (.inr (.inl ⟨_, _, _, hg⟩))))
    ·exact Z15 r i hc.2 h
   ·cases hc
  | nil =>
   simp only [Z7] at hc
   split at hc
   ·rename_i hg
    rcases List.mem_cons.1 hi with h | h
    ·subst h; exact .inr (.inr (.inr (.inr (.inr ⟨_, hg⟩))))
    ·exact Z15 r i hc h
   ·cases hc
def Ent.fits (ent : Ent) (m : Nat) (b : Code) : Bool := decide (ent.m = m) && Nat.ble m ent.car.objs.length && (subN (pureSl ent.car.slots) (writes b) && subN (pureEx ent.exits) (writes b) && subN (ownEx ent.exits) (writes b ++ ownSl ent.car.slots) && subN (preSlots ent.pre) (writes b) &&
 apartN (Zs ent.inv) (writes b) && apartN (Zs ent.inv) (Zs ent.car.slots) && apartN (Zs ent.inv) (exitSlots ent.exits))
end
end Go.Proofs.YtnehieeplbgaiacDoor.Eng
set_option linter.unusedVariables false
set_option linter.unusedSimpArgs false
namespace Go.Proofs.YtnehieeplbgaiacDoor.Eng
open Go Go.RowKit
section
variable {P : Program} {C : Cx} {X : Ctx} {β : Type} {root : Code} {L : List Nat → Option LE}
theorem Z5q {sh : Shape} {s : TSt} {k : denL sh.tys → Option β} {r : β} (h : decS sh s k = some r) : ∃ x, (Z7 s.env sh.objs.length sh.slots && Z11 sh.objs.length s.heap sh.objs) = true ∧ asTL [] sh.tys (Z6 s.env sh.slots ++ colObjs s.heap sh.objs) = some x ∧ k x = some r := by
 unfold decS at h
 split at h
 ·rename_i hc
  split at h
  ·rename_i x hx
   exact ⟨x, hc, hx, h⟩
  ·cases h
 ·cases h
theorem encI_ok {env : List (Nat × SV)} : ∀ (inv : List (Nat × SK)) (vs : List SV), Z1k env inv = true → Rel3 (slotTys inv) (Z6 env inv) vs →
  (encSlots inv vs).1.map (·.1) = Zs inv ∧ ∀ i, i ∈ Zs inv → (∀ H H' n, LeS H H' n (tget env i) (tget (encSlots inv vs).1 i)) ∧ tget env i ≠ .any ∧ (∀ t (x : t.den), tget env i = .val t x → tget (encSlots inv vs).1 i = .val t x) ∧ (∀ t (x : t.den), tget env i = .rp t x → tget (encSlots inv vs).1 i = .rp t x) ∧
   (∀ g, tget env i = .fn g [] → tget (encSlots inv vs).1 i = .fn g []) ∧ ((∃ t x, tget (encSlots inv vs).1 i = .val t x) ∨ (∃ t x, tget (encSlots inv vs).1 i = .rp t x) ∨ ∃ g, tget (encSlots inv vs).1 i = .fn g []) := by
 intro inv
 induction inv with
 | nil => exact fun vs _ _ => ⟨rfl, fun i hi => by cases hi⟩
 | cons p r ih =>
  obtain ⟨j, sk⟩ := p
  have fin : ∀ {vs vs' : List SV} {v : SV}, Z1k env r = true → Rel3 (slotTys r) (Z6 env r) vs' → (encSlots ((j, sk) :: r) vs).1 = (j, v) :: (encSlots r vs').1 →
    (∀ H H' n, LeS H H' n (tget env j) v) → tget env j ≠ .any → (∀ t (x : t.den), tget env j = .val t x → v = .val t x) → (∀ t (x : t.den), tget env j = .rp t x → v = .rp t x) → (∀ g, tget env j = .fn g [] → v = .fn g []) → ((∃ t x, v = .val t x) ∨ (∃ t x, v = .rp t x) ∨ ∃ g, v = .fn g []) →
    (encSlots ((j, sk) :: r) vs).1.map (·.1) = Zs ((j, sk) :: r) ∧ ∀ i, i ∈ Zs ((j, sk) :: r) → (∀ H H' n, LeS H H' n (tget env i) (tget (encSlots ((j, sk) :: r) vs).1 i)) ∧ tget env i ≠ .any ∧ (∀ t (x : t.den), tget env i = .val t x → tget (encSlots ((j, sk) :: r) vs).1 i = .val t x) ∧ (∀ t (x : t.den), tget env i = .rp t x → tget (encSlots ((j, sk) :: r) vs).1 i = .rp t x) ∧
     (∀ g, tget env i = .fn g [] → tget (encSlots ((j, sk) :: r) vs).1 i = .fn g []) ∧ ((∃ t x, tget (encSlots ((j, sk) :: r) vs).1 i = .val t x) ∨ (∃ t x, tget (encSlots ((j, sk) :: r) vs).1 i = .rp t x) ∨ ∃ g, tget (encSlots ((j, sk) :: r) vs).1 i = .fn g []) := by
   intro vs vs' v hc hr he h1 h2 h3 h4 h5 h6
   obtain ⟨h7, h8⟩ := ih vs' hc hr
   rw [he]
   refine ⟨by simp only [List.map_cons, Zs]; rw [h7]; rfl, fun i hi => ?_⟩
   simp only [tget]
   by_cases hij : i = j
   ·subst hij
    simp only [if_true]
    exact ⟨h1, h2, h3, h4, h5, h6⟩
   ·simp only [if_neg hij]
    simp only [Zs, List.map_cons, List.mem_cons] at hi
    exact h8 i (hi.resolve_left hij)
  intro vs hc hr
  cases sk with
  | val t =>
   simp only [slotTys, Z6] at hr
   cases hr with
   | @cons _ _ y _ _ _ hu hr =>
    simp only [Z1k] at hc
    have hc2 : Z1k env r = true ∧ (∀ t' (x : t'.den), tget env j ≠ .rp t' x) ∧ ∀ g, tget env j ≠ .fn g [] := by
     cases hg : tget env j <;> rw [hg] at hc <;> first | (simp only at hc; exact ⟨hc, (fun t' x e => by cases e), fun g e => by cases e⟩) | (simp at hc)
    refine fin hc2.1 hr rfl (fun H H' n => Z6n (Lends.none (Z14 n) H) hu) (fun e => by rw [e, Zah] at hu; cases hu) (fun t' x e => ?_) (fun t' x e => absurd e (hc2.2.1 t' x)) (fun g e => absurd e (hc2.2.2 g)) (.inl ⟨t, y, rfl⟩)
    ·rw [e] at hu
     obtain ⟨e1, h9⟩ := Za (show Zd t t' x = some y from hu)
     subst e1
     subst h9
     rfl
  | rp t =>
   simp only [slotTys, Z6] at hr
   cases hr with
   | @cons _ _ y _ _ _ hu hr =>
    have key : tget env j = .rp t y := by
     revert hu
     cases tget env j with
     | rp u z =>
      intro hu
      obtain ⟨e, h9⟩ := Za (show Zd t u z = some y from hu)
      subst e
      subst h9
      rfl
     | _ => intro hu; rw [show unRp _ = SV.any from rfl, Zah] at hu; cases hu
    refine fin hc hr rfl (fun H H' n => by rw [key]; exact .refl _) (by rw [key]; simp) (fun t' x e => by rw [key] at e; cases e) (fun t' x e => by rw [key] at e; exact e) (fun g e => by rw [key] at e; cases e) (.inr (.inl ⟨t, y, rfl⟩))
  | fn g =>
   simp only [slotTys, Z6] at hr
   simp only [Z1k] at hc
   split at hc
   ·rename_i g' hg
    simp only [Bool.and_eq_true, decide_eq_true_eq] at hc
    obtain ⟨rfl, hc⟩ := hc
    refine fin hc hr rfl (fun H H' n => by rw [hg]; exact .refl _) (by rw [hg]; simp) (fun t' x e => by rw [hg] at e; cases e) (fun t' x e => by rw [hg] at e; cases e) (fun g e => by rw [hg] at e; exact e) (.inr (.inr ⟨_, rfl⟩))
   ·cases hc
  | own k sz => simp [Z1k] at hc
  | que k sz => simp [Z1k] at hc
  | ptr k sz => simp [Z1k] at hc
  | nm k sz => simp [Z1k] at hc
  | agg cs => simp [Z1k] at hc
  | nil => simp [Z1k] at hc
  | inn k => simp [Z1k] at hc
  | clo f cs => simp [Z1k] at hc
theorem Zfg {m : Nat} (hm : X.m = m) : ∀ (l : List (Exit × Shape)) (e : Exit) (s : TSt) (k : sumD l → Option β) (r : β), Zfh m l e s k = some r → ∃ (sh : Shape) (s' : TSt) (x : denL sh.tys) (y : sumD l), k y = some r ∧ Imp X s.toSt s'.toSt ∧ PureSame s s' ∧
  (Z7 s'.env sh.objs.length sh.slots && Z11 sh.objs.length s'.heap sh.objs) = true ∧ asTL [] sh.tys (Z6 s'.env sh.slots ++ colObjs s'.heap sh.objs) = some x ∧ (∀ i ∈ Zs sh.slots, i ∈ exitSlots l) ∧ (∀ i ∈ pureSl sh.slots, i ∈ pureEx l) ∧ (∀ i ∈ ownSl sh.slots, i ∈ ownEx l) ∧ m ≤ sh.objs.length ∧
  ∀ {γ : Type} (k' : Exit → (sh : Shape) → denL sh.tys → Option γ), Zk0 l y k' = k' e sh x := by
 intro l
 induction l with
 | nil => intro e s k r h; simp [Zfh] at h
 | cons p l ih =>
  intro e s k r h
  cases l with
  | nil =>
   simp only [Zfh] at h
   split at h
   ·rename_i he
    rw [Bool.and_eq_true] at he
    obtain rfl := Za5 he.1
    obtain ⟨s', h1, h2, h3⟩ := Z9g (X := X) hm _ _ _ _ h
    obtain ⟨x, h4, h5, h6⟩ := Z5q h1
    exact ⟨p.2, s', x, x, h6, h2, h3, h4, h5, fun i hi => by simp only [exitSlots, List.append_nil]; exact hi, fun i hi => by simp only [pureEx, List.append_nil]; exact hi, fun i hi => by simp only [ownEx, List.append_nil]; exact hi, Nat.le_of_ble_eq_true he.2, fun k' => rfl⟩
   ·cases h
  | cons q l =>
   simp only [Zfh] at h
   split at h
   ·rename_i he
    obtain rfl := Za5 he
    split at h
    ·rename_i hbl
     obtain ⟨s', h1, h2, h3⟩ := Z9g (X := X) hm _ _ _ _ h
     obtain ⟨x, h4, h5, h6⟩ := Z5q h1
     exact ⟨p.2, s', x, .inl x, h6, h2, h3, h4, h5, fun i hi => List.mem_append_left _ hi, fun i hi => List.mem_append_left _ hi, fun i hi => List.mem_append_left _ hi, Nat.le_of_ble_eq_true hbl, fun k' => rfl⟩
    ·cases h
   ·obtain ⟨sh, s', x, y, h1, h2, h3, h4, h5, h6, h8, h9, h10, h7⟩ := ih e s _ r h
    exact ⟨sh, s', x, .inr y, h1, h2, h3, h4, h5, fun i hi => List.mem_append_right _ (h6 i hi), fun i hi => List.mem_append_right _ (h8 i hi), fun i hi => List.mem_append_right _ (h9 i hi), h10, fun k' => h7 k'⟩
theorem Zaa (sh : Shape) (x : denL sh.tys) (fr : List (Nat × SV)) : (encS sh x fr).env = (encSlots sh.slots (svL sh.tys x)).1 ++ fr := rfl
theorem encSlots_keys : ∀ (slots : List (Nat × SK)) (l : List SV), ∀ i ∈ (encSlots slots l).1.map (·.1), i ∈ Zs slots
 | [], l, i, hi => by simp [encSlots] at hi
 | (j, sk) :: r, l, i, hi => by
  have go : ∀ {v : SV} {l' : List SV}, i ∈ ((j, v) :: (encSlots r l').1).map (·.1) → i ∈ Zs ((j, sk) :: r) := fun {v l'} h => by
   rcases List.mem_cons.1 h with h | h
   ·rw [h]; exact List.mem_cons_self ..
   ·exact List.mem_cons_of_mem _ (encSlots_keys r l' i h)
  cases sk with
  | val t => cases l with
   | nil => simp [encSlots] at hi
   | cons y l => exact go hi
  | rp t => cases l with
   | nil => simp [encSlots] at hi
   | cons y l => exact go hi
  | own k sz => exact go hi
  | que k sz => exact go hi
  | ptr k sz => exact go hi
  | nm k sz => exact go hi
  | fn g => exact go hi
  | agg cs => exact go hi
  | nil => exact go hi
  | inn k => cases l with
   | nil => simp [encSlots] at hi
   | cons y l => exact go hi
  | clo f cs => exact go hi
theorem knownB_ok : ∀ (env : List (Nat × SV)) (inv : List (Nat × SK)), Zbs env inv = true → ∀ i ∈ Zs inv, tget env i ≠ .any
 | env, (j, sk) :: r, h, i, hi => by
  unfold Zbs at h
  split at h
  ·cases h
  ·rename_i hne
   rcases List.mem_cons.1 hi with h1 | h1
   ·have h2 : i = j := h1
    subst h2
    exact hne
   ·exact knownB_ok env r h i h1
theorem LoopOK.of {k : Bool} (hC : CxOK P C) {p : List Nat} {b : Code} (hL : LsOK P C root L k) (hat : atC root p = some (.loop b)) {ent : Ent} (hfit : ent.fits C.m b = true)
  (hstep : ∀ iv x, exF C L b (0 :: p) ent.kd (ent.head iv x) = ent.step iv x) : LoopOK k P C ent b := by
 intro X hn hm hfra β K s r h
 simp only [Ent.fits, Bool.and_eq_true] at hfit
 obtain ⟨⟨f0, f8⟩, ⟨⟨⟨⟨⟨f1, f2⟩, f7⟩, f3⟩, f4⟩, f5⟩, f6⟩ := hfit
 have hm : X.m = ent.m := hm.trans (of_decide_eq_true f0).symm
 have hmC := (of_decide_eq_true f0)
 have f8 : X.m ≤ ent.car.objs.length := by rw [hm, hmC]; exact Nat.le_of_ble_eq_true f8
 have f1 := subN_ok _ _ f1
 have f2 := subN_ok _ _ f2
 have f7 := subN_ok _ _ f7
 have f3 := subN_ok _ _ f3
 have f4 := apartN_ok _ _ f4
 have f5 := apartN_ok _ _ f5
 have f6 := apartN_ok _ _ f6
 unfold runL at h
 split at h
 ·rename_i s1 hs1
  obtain ⟨s2, h1, h2, h3⟩ := Z9g (X := X) hm _ _ _ _ h
  split at h1
  ·rename_i iv hci hiv
   obtain ⟨x, h4, h5, h6⟩ := Z5q h1
   obtain ⟨y, h7, h8⟩ := Z5z h6
   have hI := encI_ok (env := s2.env) ent.inv _ hci (rel3_of _ _ _ hiv)
   have hkeys : (encI ent.inv iv).map (·.1) = Zs ent.inv := hI.1
   have hfr : ∀ s' : TSt, (∀ i ∈ Zs ent.inv, tget s'.env i = tget (encI ent.inv iv) i) → FrOK (encI ent.inv iv) s' := by
    intro s' hs' H H' n i
    by_cases hi : i ∈ Zs ent.inv
    ·rw [hs' i hi]
     rcases (hI.2 i hi).2.2.2.2.2 with ⟨t, z, e⟩ | ⟨t, z, e⟩ | ⟨g, e⟩
     ·have e' : tget (encI ent.inv iv) i = .val t z := e
      rw [e']; unfold LeS; simp only [SV.toAV]; rw [Z1h]; exact .refl _
     ·have e' : tget (encI ent.inv iv) i = .rp t z := e
      rw [e']; exact .refl _
     ·have e' : tget (encI ent.inv iv) i = .fn g [] := e
      rw [e']; exact .refl _
    ·rw [tget_not (encI ent.inv iv) i (by rw [hkeys]; exact hi)]; exact .any _
   have hfr2 : FrOK (encI ent.inv iv) s2 := fun H H' n i => by
    by_cases hi : i ∈ Zs ent.inv
    ·exact (hI.2 i hi).1 H H' n
    ·rw [tget_not (encI ent.inv iv) i (by rw [hkeys]; exact hi)]; exact .any _
   have hhead : Imp X s.toSt (ent.head iv x).toSt := (Zgh C.TY (hm.trans hmC) _ _ _ hs1).trans (h2.trans (Zdc f8 h4 h5 hfr2))
   have stay : ∀ (x' : denL ent.car.tys) (s' : TSt), WFr (writes b) (ent.head iv x') s' → Zbs s'.env ent.inv = true → ∀ i ∈ Zs ent.inv, tget s'.env i = tget (encI ent.inv iv) i := by
    intro x' s' hw hk i hi
    have hne := knownB_ok _ _ hk i hi
    have hnw := f4 i hi
    have hh : tget (ent.head iv x').env i = tget (encI ent.inv iv) i := by
     unfold Ent.head
     rw [Zaa, tget_app, if_neg]
     intro hmem
     exact f5 i hi (encSlots_keys _ _ i hmem)
    have h9 := hw i hnw
    rw [hh] at h9
    rcases (hI.2 i hi).2.2.2.2.2 with ⟨t, z, e⟩ | ⟨t, z, e⟩ | ⟨g, e⟩
    ·have e' : tget (encI ent.inv iv) i = .val t z := e
     rw [e']; exact (h9.2.1 t z e').resolve_left hne
    ·have e' : tget (encI ent.inv iv) i = .rp t z := e
     rw [e']; exact (h9.2.2.1 t z e').resolve_left hne
    ·have e' : tget (encI ent.inv iv) i = .fn g [] := e
     rw [e']; exact (h9.2.2.2 g e').resolve_left hne
   have stay2 : ∀ (s' s'' : TSt), PureSame s' s'' → (∀ i ∈ Zs ent.inv, tget s'.env i = tget (encI ent.inv iv) i) → ∀ i ∈ Zs ent.inv, tget s''.env i = tget (encI ent.inv iv) i := by
    intro s' s'' hps hs' i hi
    have h9 := hps i
    rw [hs' i hi] at h9
    rcases (hI.2 i hi).2.2.2.2.2 with ⟨t, z, e⟩ | ⟨t, z, e⟩ | ⟨g, e⟩
    ·have e' : tget (encI ent.inv iv) i = .val t z := e
     rw [e']; exact h9.2.1 t z e'
    ·have e' : tget (encI ent.inv iv) i = .rp t z := e
     rw [e']; exact h9.2.2.1 t z e'
    ·have e' : tget (encI ent.inv iv) i = .fn g [] := e
     rw [e']; exact h9.2.2.2 g e'
   have hout : ∀ (sh : Shape) (z : denL sh.tys), (∀ i ∈ pureSl sh.slots, i ∈ writes b) → (∀ i ∈ ownSl sh.slots, i ∈ writes b ++ ownSl ent.car.slots) → WFr (writes b) s (encS sh z (encI ent.inv iv)) := by
    intro sh z hsh hsho i hi
    have h9 := preF_fr (writes b) C.TY _ _ _ hs1 (Z2c _ f3) i hi
    have h10 := h3 i
    by_cases hk : i ∈ Zs sh.slots
    ·
     have ho : i ∈ ownSl ent.car.slots := by
      rcases slot_or _ _ hk with h | h
      ·exact absurd (hsh i h) hi
      ·exact (List.mem_append.1 (hsho i h)).resolve_left hi
     have hchk := Z15 _ i (by rw [Bool.and_eq_true] at h4; exact h4.1) ho
     have no : ∀ v : SV, tget s2.env i = v → (∀ k sz, v ≠ .own k sz) → (∀ k sz, v ≠ .ptr k 0 sz 0) → (∀ k q, v ≠ .nm k q) → (∀ cs, v ≠ .agg cs) → (∀ f c cs, v ≠ .fn f (c :: cs)) → (∀ c, v ≠ .cst c) → False := by
      intro v e h1 h2 h3 h4 h5 h6
      rcases hchk with ⟨k, sz, h⟩ | ⟨k, sz, h⟩ | ⟨k, sz, h⟩ | ⟨cs, h⟩ | ⟨f, c, cs, h⟩ | ⟨c, h⟩
      ·exact h1 k sz (e.symm.trans h)
      ·exact h2 k sz (e.symm.trans h)
      ·exact h3 k sz (e.symm.trans h)
      ·exact h4 cs (e.symm.trans h)
      ·exact h5 f c cs (e.symm.trans h)
      ·exact h6 c (e.symm.trans h)
     refine ⟨fun e => ?_, fun t z e => ?_, fun t z e => ?_, fun g e => ?_⟩
     ·exact (no _ (h10.1 (h9.1 e)) (fun _ _ h => by cases h) (fun _ _ h => by cases h) (fun _ _ h => by cases h) (fun _ h => by cases h) (fun _ _ _ h => by cases h) (fun _ h => by cases h)).elim
     ·rcases h9.2.1 t z e with e | e
      ·exact (no _ (h10.1 e) (fun _ _ h => by cases h) (fun _ _ h => by cases h) (fun _ _ h => by cases h) (fun _ h => by cases h) (fun _ _ _ h => by cases h) (fun _ h => by cases h)).elim
      ·exact (no _ (h10.2.1 t z e) (fun _ _ h => by cases h) (fun _ _ h => by cases h) (fun _ _ h => by cases h) (fun _ h => by cases h) (fun _ _ _ h => by cases h) (fun _ h => by cases h)).elim
     ·rcases h9.2.2.1 t z e with e | e
      ·exact (no _ (h10.1 e) (fun _ _ h => by cases h) (fun _ _ h => by cases h) (fun _ _ h => by cases h) (fun _ h => by cases h) (fun _ _ _ h => by cases h) (fun _ h => by cases h)).elim
      ·exact (no _ (h10.2.2.1 t z e) (fun _ _ h => by cases h) (fun _ _ h => by cases h) (fun _ _ h => by cases h) (fun _ h => by cases h) (fun _ _ _ h => by cases h) (fun _ h => by cases h)).elim
     ·rcases h9.2.2.2 g e with e | e
      ·exact (no _ (h10.1 e) (fun _ _ h => by cases h) (fun _ _ h => by cases h) (fun _ _ h => by cases h) (fun _ h => by cases h) (fun _ _ _ h => by cases h) (fun _ h => by cases h)).elim
      ·exact (no _ (h10.2.2.2 g e) (fun _ _ h => by cases h) (fun _ _ h => by cases h) (fun _ _ h => by cases h) (fun _ h => by cases h) (fun _ _ _ h => by cases h) (fun _ h => by cases h)).elim
    ·rw [Zaa, tget_app, if_neg (fun hmem => hk (encSlots_keys _ _ i hmem))]
     by_cases hii : i ∈ Zs ent.inv
     ·have hq := hI.2 i hii
      refine ⟨fun e => absurd (h10.1 (h9.1 e)) hq.2.1, fun t z e => ?_, fun t z e => ?_, fun g e => ?_⟩
      ·rcases h9.2.1 t z e with e | e
       ·exact absurd (h10.1 e) hq.2.1
       ·exact .inr (hq.2.2.1 t z (h10.2.1 t z e))
      ·rcases h9.2.2.1 t z e with e | e
       ·exact absurd (h10.1 e) hq.2.1
       ·exact .inr (hq.2.2.2.1 t z (h10.2.2.1 t z e))
      ·rcases h9.2.2.2 g e with e | e
       ·exact absurd (h10.1 e) hq.2.1
       ·exact .inr (hq.2.2.2.2.1 g (h10.2.2.2 g e))
     ·have e := tget_not (encI ent.inv iv) i (by rw [hkeys]; exact hii)
      exact ⟨fun _ => e, fun _ _ _ => .inl e, fun _ _ _ => .inl e, fun _ _ => .inl e⟩
   obtain ⟨n, hN⟩ := Z4c h7
   refine TW.from hhead ?_
   unfold TW
   refine WP.ghost (α := denL ent.car.tys × Nat) (fun g => (ent.head iv g.1).toSt) (fun g => Z4i (ent.step iv) g.2 g.1 = some y) (fun g => g.2) (x, n) hN ?_
   rintro ⟨x', n'⟩ hN'
   cases n' with
   | zero => cases hN'
   | succ n' =>
    have hat' : atC root (0 :: p) = some b := by simp only [atC, hat]; rfl
    cases hst : ent.step iv x' with
    | none => simp only [Z4i, hst] at hN'; cases hN'
    | some q =>
     have hex := Zeb hC hn (hm.trans hmC) hL b (0 :: p) ent.kd (ent.head iv x') q hfra hat' (by rw [hstep]; exact hst)
     refine WP.mono hex (fun e s' hq => ?_)
     obtain ⟨s3, h9, h10, h11⟩ := hq
     unfold Ent.kd at h10
     split at h10
     ·rename_i hk
      have hs3 := stay x' s3 h11 hk
      split at h10
      ·rename_i he
       obtain rfl := Za5 he
       obtain ⟨s4, h12, h13, h14⟩ := Z9g (X := X) hm _ _ _ _ h10
       obtain ⟨x2, h15, h16, h17⟩ := Z5q h12
       cases h17
       simp only [Z4i, hst] at hN'
       refine ⟨(x2, n'), h9.trans (h13.trans (Zdc f8 h15 h16 (hfr s4 (stay2 _ _ h14 hs3)))), hN', Nat.lt_succ_self _⟩
      ·rename_i he
       obtain ⟨sh, s4, z, y2, h12, h13, h14, h15, h16, h17, h19, h20, h21, h18⟩ := Zfg hm _ _ _ _ _ h10
       cases h12
       simp only [Z4i, hst] at hN'
       cases hN'
       have hres : ∃ s5, Imp X s' s5.toSt ∧ K e s5 = some r ∧ WFr (writes b) s s5 := by
        refine ⟨encS sh z (encI ent.inv iv), h9.trans (h13.trans (Zdc (by rw [hm]; exact h21) h15 h16 (hfr s4 (stay2 _ _ h14 hs3)))), ?_, hout sh z (fun i hi => f2 i (h19 i hi)) (fun i hi => f7 i (h20 i hi))⟩
        rw [← h8, h18]
       cases e with
       | normal => exact absurd he (by decide)
       | _ => exact hres
     ·cases h10
  ·cases h1
 ·cases h
end
end Go.Proofs.YtnehieeplbgaiacDoor.Eng
set_option linter.unusedVariables false
set_option linter.unusedSimpArgs false
namespace Go.Proofs.YtnehieeplbgaiacDoor.Eng
open Go Go.RowKit
section
variable {P : Program} {C : Cx} {X : Ctx} {β : Type} {root : Code} {L : List Nat → Option LE}
end
end Go.Proofs.YtnehieeplbgaiacDoor.Eng
set_option linter.unusedVariables false
set_option linter.unusedSimpArgs false
namespace Go.Proofs.YtnehieeplbgaiacDoor.Eng
open Go Go.RowKit
section
variable {P : Program} {C : Cx} {X : Ctx} {β : Type} {root : Code} {L : List Nat → Option LE}
theorem WPO.mono {ops : Array Oper} {rest : List Oper} {K K' : St → Prop} {s : St} (h : WPO P X ops rest K s) (hk : ∀ s, K s → K' s) : WPO P X ops rest K' s := fun Qc a w hK hr => h Qc a w (fun s' a' w' h1 h2 => hK s' a' w' (hk _ h1) h2) hr
end
end Go.Proofs.YtnehieeplbgaiacDoor.Eng
set_option linter.unusedVariables false
set_option linter.unusedSimpArgs false
namespace Go.Proofs.YtnehieeplbgaiacDoor.Eng
open Go Go.RowKit
section
variable {P : Program} {C : Cx} {X : Ctx} {β : Type} {root : Code} {L : List Nat → Option LE}
end
end Go.Proofs.YtnehieeplbgaiacDoor.Eng
set_option linter.unusedVariables false
set_option linter.unusedSimpArgs false
namespace Go.Proofs.YtnehieeplbgaiacDoor.Eng
open Go Go.RowKit
inductive RV where
 | tmp (i : Nat)
 | cell (p ty : Nat)
def RV.var : RV → ResultVar
 | .tmp i => .tmp i
 | .cell p ty => .cell p ty
def resV (C : Cx) (s : TSt) : RV → SV
 | .tmp i => tget s.env i
 | .cell p ty => (match C.T ty, tget s.env p with
  | some i, .ptr id k _ j => (match nth s.heap id with
   | some (.box _ cs) => if k = 0 ∧ j + i.size ≤ cs.length ∧ 0 < i.size ∧ (i.k.agg = true ∨ i.size = 1) then Zc5 i (cs.drop j) else .any
   | _ => .any)
  | _, _ => .any)
def Z1l (C : Cx) (s : TSt) : List RV → List SV
 | [] => []
 | r :: l => resV C s r :: Z1l C s l
def resK (C : Cx) (res : List Ty) (rs : List RV) (s : TSt) : Option (denL res) := let s1 := frzFor C.TY s (Z1l C s rs); asTL [] res (Z1l C s1 rs)
def retK (C : Cx) (res : List Ty) (rs : List RV) (e : Exit) (s : TSt) : Option (denL res) := match e with
 | .normal => resK C res rs s
 | .ret => resK C res rs s
 | _ => none
def svA : SV → SV
 | .val .nilS _ => .cst (.slice none 0 0)
 | .val (.fnc f) _ => .fn f []
 | .val (.ref t) x => .rp t x
 | x => x
theorem svA_ok (h : List TObj) (x : SV) : (svA x).toAV h = x.toAV h := by
 unfold svA
 split <;> rfl
theorem Zfz (h : List TObj) (l : List SV) : SV.toAVL h (l.map svA) = SV.toAVL h l := by
 rw [SV.toAVL_eq, SV.toAVL_eq, List.map_map]
 exact List.map_congr_left fun x _ => svA_ok h x
def Z5b (args : List Ty) (x : denL args) : TSt := ⟨Z5l 0 ((svL args x).map svA), []⟩
section
variable {P : Program} {C : Cx} {X : Ctx} {root : Code} {L : List Nat → Option LE}
theorem asTL_any : ∀ (res : List Ty) (l : List SV) (y : denL res), asTL [] res l = some y → SV.any ∉ l := by
 intro res
 induction res with
 | nil => intro l y h; cases l with
  | nil => simp
  | cons x l => cases h
 | cons t r ih =>
  intro l y h
  cases l with
  | nil => simp
  | cons x l =>
   simp only [asTL] at h
   cases hp : asT [] t x with
   | none => rw [hp] at h; cases h
   | some p =>
    rw [hp] at h
    simp only at h
    cases hq : asTL [] r l with
    | none => rw [hq] at h; cases r <;> cases h
    | some q =>
     have h2 := ih l q hq
     simp only [List.mem_cons, not_or]
     refine ⟨fun e => ?_, h2⟩
     rw [← e, Zah] at hp
     cases hp
theorem Z3h (s : TSt) : ∀ rs : List RV, SV.any ∉ Z1l C s rs → ∃ c, Z5g C.T s.toSt (rs.map RV.var) = some (c, SV.toAVL s.heap (Z1l C s rs)) ∧ c
 | [], _ => ⟨True, rfl, trivial⟩
 | r :: l, hno => by
  simp only [Z1l, List.mem_cons, not_or] at hno
  obtain ⟨c, h1, h2⟩ := Z3h s l hno.2
  have one : ∃ c', Z7a C.T s.toSt r.var = some (c', (resV C s r).toAV s.heap) ∧ c' := by
   cases r with
   | tmp i => exact ⟨True, by simp only [RV.var, Z7a, resV, TSt.toSt, Zf], trivial⟩
   | cell p ty =>
    have hne := hno.1
    simp only [resV] at hne ⊢
    cases hT : C.T ty with
    | none => rw [hT] at hne; exact absurd rfl hne
    | some i =>
     rw [hT] at hne
     cases hp : tget s.env p with
     | ptr id k sz j =>
      rw [hp] at hne
      simp only at hne ⊢
      cases hq : nth s.heap id with
      | none => rw [hq] at hne; exact absurd rfl hne
      | some ob =>
       rw [hq] at hne
       cases ob with
       | box e cs =>
        simp only at hne ⊢
        by_cases hc : k = 0 ∧ j + i.size ≤ cs.length ∧ 0 < i.size ∧ (i.k.agg = true ∨ i.size = 1)
        ·rw [if_pos hc]
         obtain ⟨rfl, h4, h5, h6⟩ := hc
         refine ⟨_, by simp only [RV.var, Z7a, hT, TSt.toSt, Zf, hp, SV.toAV]; rw [show (List.map (TObj.toObj s.heap) s.heap)[id]? = some (.box e (SV.toAVL s.heap cs)) from by rw [List.getElem?_map, ← Z3, hq]; rfl]; simp only [Zu]; rw [Z5w, Z7y], ?_⟩
         refine ⟨by simp, by rw [Z19]; exact h4, h5, fun h7 => ?_⟩
         rcases h6 with h6 | h6
         ·rw [h7] at h6; cases h6
         ·exact h6
        ·rw [if_neg hc] at hne; exact absurd rfl hne
       | _ => exact absurd rfl hne
     | _ => rw [hp] at hne; exact absurd rfl hne
  obtain ⟨c', h3, h4⟩ := one
  exact ⟨c' ∧ c, by simp only [List.map_cons, Z5g, h1, h3, Z1l, SV.toAVL], h4, h2⟩
theorem Z8i (f : AV → AV) (l : List AV) : (retAV l).sub f = retAV (l.map (AV.sub f)) := by
 cases l with
 | nil => rfl
 | cons x r =>
  cases r with
  | nil => rfl
  | cons y r => simp only [retAV, List.map_cons, AV.sub, AV.subL_eq]
theorem Zdu {l m : List AV} (h : AV.leL l m) : AV.le (retAV l) (retAV m) := by
 cases l with
 | nil => cases m with
  | nil => exact .refl _
  | cons y r => exact h.elim
 | cons x r =>
  cases m with
  | nil => exact h.elim
  | cons y q =>
   cases r with
   | nil => cases q with
    | nil => exact h.1
    | cons z q => exact h.2.elim
   | cons x' r => cases q with
    | nil => exact h.2.elim
    | cons y' q => exact AV.leTup h
theorem Za9 (h : List TObj) : ∀ (l : List SV) (k : Nat), (Z5l k l).map (fun p => (p.1, p.2.toAV h)) = Z1d k (SV.toAVL h l)
 | [], _ => rfl
 | x :: r, k => by simp only [Z5l, List.map_cons, SV.toAVL, Z1d]; rw [Za9 h r]
theorem FnOK.of (hC : CxOK P C) {f : Nat} {func : Func} (hE : Enters P f) (hf : P.funcs[f]? = some func) (hb : func.body = some root) {fn : TFn} {rs : List RV} (hrs : func.results.toList = rs.map RV.var) (hn : fn.args.length + (func.ntmps - fn.args.length) = C.n)
  (hL : LsOK P C root L) (hstep : ∀ x, exF C L root [] (retK C fn.res rs) (Z5b fn.args x) = fn.run x) (hm0 : C.m = 0 := by rfl) : FnOK P f fn := by
 refine ⟨hE, fun x r hr => ?_⟩
 have hlen : ∀ (ts : List Ty) (x : denL ts), (avL ts x).length = ts.length := by
  intro ts
  induction ts with
  | nil => exact fun x => rfl
  | cons t q ih =>
   intro x
   cases q with
   | nil => rfl
   | cons u q => simp only [avL, List.length_cons]; rw [ih x.2]; rfl
 refine FSpec.of_WP' hC.T hf hb (fun X hXn hXm hro hrf => ?_)
 have hst : (Z5b fn.args x).toSt = ⟨Z1d 0 (avL fn.args x), []⟩ := by
  simp only [Z5b, TSt.toSt, Za9, Zfz, Zdo, List.map_nil]
 have h1 := Zeb (β := denL fn.res) hC (X := X) (by rw [hXn, hlen]; exact hn) (hXm.trans hm0.symm) hL root [] (retK C fn.res rs) (Z5b fn.args x) r ⟨hro, hrf⟩ rfl (by rw [hstep]; exact hr)
 unfold TW at h1
 rw [hst] at h1
 refine h1.monoR (fun e s hq => ?_)
 obtain ⟨s1, h2, h3, _⟩ := hq
 have key : resK C fn.res rs s1 = some r → ∃ s', (∀ a w, Rep X s a w → Rep X s' a w) ∧ Ret C.T func 0 (fun r' h => r' = retAV (avL fn.res r) ∧ h = []) s' := by
  intro h3
  unfold resK at h3
  have hfz := Z36 (X := X) (C := C) (s := s1) (Z1l C s1 rs)
  generalize frzFor C.TY s1 (Z1l C s1 rs) = s2 at h3 hfz
  simp only at h3
  refine ⟨s2.toSt, h2.trans hfz.1, ?_⟩
  unfold Ret
  rw [hrs]
  obtain ⟨c, h4, h5⟩ := Z3h (C := C) s2 rs (asTL_any _ _ _ h3)
  rw [h4]
  refine ⟨h5, [], by simp, by simp, _, ?_, rfl, by simp [Z1r]⟩
  have h6 := Zai (Lends.none (Z1o []) s2.heap) _ _ _ h3
  have e : List.range 0 ++ [] = ([] : List Nat) := rfl
  rw [e, Z8i]
  refine Zdu ?_
  rw [SV.toAVL_eq]
  exact h6
 cases e with
 | normal => exact key h3
 | ret => exact key h3
 | _ => exact absurd h3 (by simp [retK])
def Z9o (TY : Nat → Option Ty) : List Ty → List (Option Nat) → List RV → TSt → TSt
 | t :: ts, os, r :: rs, s => Z9o TY ts os.tail rs (match t, ownHd os, r with
  | .slice u, some e, .tmp i => (match preF TY 0 [.nil i e u] s with | some s' => s' | none => s)
  | _, _, _ => s)
 | _, _, _, s => s
def restOf : List (Option Nat) → List SV → List SV
 | _, [] => []
 | os, x :: l => (match ownHd os with | some _ => restOf os.tail l | none => x :: restOf os.tail l)
def consId : Option Nat → SV → List Nat → List Nat
 | some _, .own id _, r => id :: r
 | _, _, r => r
theorem Zi2 {o : Option Nat} {x : SV} {r : List Nat} (h : ∀ e id sz, o = some e → x ≠ .own id sz) : consId o x r = r := by
 unfold consId
 split
 ·rename_i e id sz
  exact absurd rfl (h e id sz rfl)
 ·rfl
def ownIds : List (Option Nat) → List SV → List Nat
 | _, [] => []
 | os, x :: l => consId (ownHd os) x (ownIds os.tail l)
def asO (h : List TObj) : (t : Ty) → Option Nat → SV → Option t.den
 | .slice u, some e, x => (match x with
  | .own id sz => (match nth h id with
   | some (.row e' u' xs) => if e' = e ∧ sz = u.size then Zd (.slice u) (.slice u') xs else none
   | _ => none)
  | _ => none)
 | t, _, x => asT [] t x
def Zce (h : List TObj) : (ts : List Ty) → List (Option Nat) → List SV → Option (denL ts)
 | [], _, l => (match l with | [] => some () | _ :: _ => none)
 | t :: r, os, l => (match l with
  | [] => none
  | x :: l => (match asO h t (ownHd os) x with
   | some a => consD t r a (Zce h r os.tail l)
   | none => none))
noncomputable def Z52 {β : Type} : List (Option Nat) → List RV → TSt → (TSt → Option β) → Option β
 | os, r :: rs, s, k => (match ownHd os, r with
  | some _, .tmp i => (match tget s.env i with
   | .cut id sz 0 len => (match nth s.heap id with
    | some (.row e t xs) => (match decide (sz = t.size) with
     | true => ck (len ≤ List.length xs) (Z52 os.tail rs ((s.subAll (Zk id) id (.row e t (List.take len xs))).put (some i) (.own id sz)) k)
     | false => none)
    | _ => none)
   | _ => Z52 os.tail rs s k)
  | _, _ => Z52 os.tail rs s k)
 | _, [], s, k => k s
noncomputable def Ziy (C : Cx) (res : List Ty) (own : List (Option Nat)) (rs : List RV) (s : TSt) : Option (denL res) :=
 Z52 own rs (Z9o C.TY res own rs s) fun s0 =>
 let s1 := frzFor C.TY s0 (restOf own (Z1l C s0 rs))
 match noDup (ownIds own (Z1l C s1 rs)) with
 | true => Zce s1.heap res own (Z1l C s1 rs)
 | false => none
noncomputable def retKO (C : Cx) (res : List Ty) (own : List (Option Nat)) (rs : List RV) (e : Exit) (s : TSt) : Option (denL res) := match e with
 | .normal => Ziy C res own rs s
 | .ret => Ziy C res own rs s
 | _ => none
theorem Zf6 (TY : Nat → Option Ty) (hm : X.m = 0) : ∀ (ts : List Ty) (os : List (Option Nat)) (rs : List RV) (s : TSt), Imp X s.toSt (Z9o TY ts os rs s).toSt := by
 intro ts
 induction ts with
 | nil => intro os rs s; exact .refl _ _
 | cons t ts ih =>
  intro os rs s
  cases rs with
  | nil => exact .refl _ _
  | cons r rs =>
   unfold Z9o
   refine Imp.trans ?_ (ih _ _ _)
   split
   ·rename_i u e i _
    cases hp : preF TY 0 [.nil i e u] s with
    | none => exact .refl _ _
    | some s' => exact Zgh TY hm _ _ _ hp
   ·exact .refl _ _
theorem Zfj {β : Type} (hm : X.m = 0) : ∀ (rs : List RV) (os : List (Option Nat)) (s : TSt) (k : TSt → Option β) (r : β), Z52 os rs s k = some r → ∃ s', k s' = some r ∧ Imp X s.toSt s'.toSt := by
 intro rs
 induction rs with
 | nil =>
  intro os s k r h
  exact ⟨s, by unfold Z52 at h; exact h, .refl _ _⟩
 | cons q rs ih =>
  intro os s k r h
  unfold Z52 at h
  split at h
  ·rename_i i _
   split at h
   ·rename_i id sz len hi
    split at h
    ·rename_i e t xs hq
     split at h
     ·rename_i hd
      obtain rfl := of_decide_eq_true hd
      obtain ⟨hc, h⟩ := Z3r h
      obtain ⟨s', h1, h2⟩ := ih _ _ k r h
      refine ⟨s', h1, Imp.trans (fun a w hr => ?_) h2⟩
      have hq' : s.toSt.heap[id]? = some (.row e t.size (List.map t.cells xs)) := by rw [TSt.heap_get, hq]; rfl
      have h4 := Rep.takeRow hr (i := i) (len := len) (by simp only [TSt.toSt, Zf]; rw [hi]; rfl) hq' (by rw [Z3u (u := t) xs]; exact hc) (by omega)
      refine h4.weak ?_
      rw [TSt.put_ok]
      have h5 := Zw (s := s) (f := Z5 id) (g := Zk id) (id := id) (ob := .row e t (List.take len xs)) (oa := .row e t.size ((List.map t.cells xs).take len)) Z1i (by
       have e2 : (List.map t.cells xs).take len = (List.take len xs).map t.cells := (List.map_take ..).symm
       rw [e2]; exact ObjLe.refl _)
      refine StLe.put (s := ⟨Zo (Z5 id) s.toSt.env, (s.toSt.heap.map (AObj.sub (Z5 id))).set id (.row e t.size ((List.map t.cells xs).take len))⟩) h5 ?_ (some i)
      have hid : id < s.heap.length := by rw [Z3] at hq; exact (List.getElem?_eq_some_iff.1 hq).1
      simp only [SV.toAV]
      rw [Z4 (e := e) (t := t) (xs := List.take len xs) (by rw [Z3]; simp [TSt.subAll, setH_eq, hid])]
      have e3 : (List.take len xs).length = len := by
       have e4 : (List.take len xs).length = min len (List.length xs) := List.length_take ..
       rw [e4]; omega
      rw [e3]
      exact .refl _
     ·cases h
    ·cases h
   ·exact ih _ _ _ _ h
  ·exact ih _ _ _ _ h
theorem asO_ok {h : List TObj} {K : List Nat} {n : Nat} (hK : K.Nodup) (t : Ty) (o : Option Nat) (x : SV) (y : t.den) (hy : asO h t o x = some y) (hn : ∀ e id sz, o = some e → x = .own id sz → K[n]? = some id) :
  AV.le ((x.toAV h).sub (Z1o K)) (Z7b n t o y) ∧ ((∃ e id sz u, ∃ xs : List u.den, o = some e ∧ x = .own id sz ∧ h[id]? = some (.row e u xs) ∧ ownObj t o y = [.row e u xs]) ∨ (ownObj t o y = [] ∧ ∀ e id sz, o = some e → x ≠ .own id sz)) := by
 have plain : asT [] t x = some y → Z7b n t o y = t.av y → ownObj t o y = [] → (∀ e id sz, o = some e → x ≠ .own id sz) → AV.le ((x.toAV h).sub (Z1o K)) (Z7b n t o y) ∧ ((∃ e id sz u, ∃ xs : List u.den, o = some e ∧ x = .own id sz ∧ h[id]? = some (.row e u xs) ∧ ownObj t o y = [.row e u xs]) ∨ (ownObj t o y = [] ∧ ∀ e id sz, o = some e → x ≠ .own id sz)) := by
  intro h1 h2 h3 h4
  rw [h2]
  exact ⟨Z6n (Lends.none _ h) h1, .inr ⟨h3, h4⟩⟩
 cases o with
 | none =>
  refine plain ?_ ?_ ?_ (fun e id sz he => by cases he)
  ·cases t <;> exact hy
  ·cases t <;> rfl
  ·cases t <;> rfl
 | some e =>
  cases t with
  | slice u =>
   simp only [asO] at hy
   split at hy
   ·rename_i id sz
    split at hy
    ·rename_i e' u' xs hq
     split at hy
     ·rename_i he
      obtain ⟨rfl, rfl⟩ := he
      obtain ⟨hty, hv⟩ := Za hy
      cases hty
      have hv' : (xs : (Ty.slice u).den) = y := hv
      subst hv'
      rw [Z3] at hq
      refine ⟨?_, .inl ⟨e', id, _, u, xs, rfl, rfl, hq, rfl⟩⟩
      simp only [SV.toAV, AV.sub, Z1o, idx_of hK (hn e' id _ rfl rfl), Z7b]
      rw [Z4 (by rw [Z3]; exact hq)]
      exact .refl _
     ·cases hy
    ·cases hy
   ·cases hy
  | int k => exact plain hy rfl rfl (fun e' id sz _ hx => by subst hx; simp [asO, asT, Ty.isAgg, asm] at hy)
  | byte => exact plain hy rfl rfl (fun e' id sz _ hx => by subst hx; simp [asO, asT, Ty.isAgg, asm] at hy)
  | bool => exact plain hy rfl rfl (fun e' id sz _ hx => by subst hx; simp [asO, asT, Ty.isAgg, asm] at hy)
  | str => exact plain hy rfl rfl (fun e' id sz _ hx => by subst hx; simp [asO, asT, Ty.isAgg, asm] at hy)
  | one u => exact plain hy rfl rfl (fun e' id sz _ hx => by subst hx; simp [asO, asT, Ty.isAgg] at hy)
  | pair a b => exact plain hy rfl rfl (fun e' id sz _ hx => by subst hx; simp [asO, asT, Ty.isAgg] at hy)
  | ptr u => exact plain hy rfl rfl (fun e' id sz _ hx => by subst hx; simp [asO, asT, Ty.isAgg, asm] at hy)
  | nilS => exact plain hy rfl rfl (fun e' id sz _ hx => by subst hx; simp [asO, asT, Ty.isAgg, asm] at hy)
  | nilI => exact plain hy rfl rfl (fun e' id sz _ hx => by subst hx; simp [asO, asT, Ty.isAgg, asm] at hy)
  | adr => exact plain hy rfl rfl (fun e' id sz _ hx => by subst hx; simp [asO, asT, Ty.isAgg, asm] at hy)
  | mp t => exact plain hy rfl rfl (fun e' id sz _ hx => by subst hx; simp [asO, asT, Ty.isAgg, asm] at hy)
  | mq t => exact plain hy rfl rfl (fun e' id sz _ hx => by subst hx; simp [asO, asT, Ty.isAgg, asm] at hy)
  | fnc f => exact plain hy rfl rfl (fun e' id sz _ hx => by subst hx; simp [asO, asT, Ty.isAgg, asm] at hy)
  | clo f c => exact plain hy rfl rfl (fun e' id sz _ hx => by subst hx; simp [asO, asT, Ty.isAgg, asm] at hy)
  | ref t => exact plain hy rfl rfl (fun e' id sz _ hx => by subst hx; simp [asO, asT, Ty.isAgg, asm] at hy)
theorem resO_ok {h : List TObj} {K : List Nat} (hK : K.Nodup) : ∀ (ts : List Ty) (os : List (Option Nat)) (xs : List SV) (y : denL ts) (n : Nat), Zce h ts os xs = some y → (∀ (j id : Nat), (ownIds os xs)[j]? = some id → K[n + j]? = some id) →
  AV.leL ((SV.toAVL h xs).map (AV.sub (Z1o K))) (avLO n ts os y) ∧ (∀ (j : Nat) (ob : TObj), (ownObjs ts os y)[j]? = some ob → ∃ id, (ownIds os xs)[j]? = some id ∧ h[id]? = some ob) ∧ (ownIds os xs).length = (ownObjs ts os y).length := by
 intro ts
 induction ts with
 | nil =>
  intro os xs y n hy hn
  cases xs with
  | nil => exact ⟨trivial, fun j ob hob => by simp [ownObjs] at hob, rfl⟩
  | cons x l => cases hy
 | cons t r ih =>
  intro os xs y n hy hn
  cases xs with
  | nil => cases hy
  | cons x l =>
   simp only [Zce] at hy
   cases hp : asO h t (ownHd os) x with
   | none => rw [hp] at hy; cases hy
   | some p =>
    rw [hp] at hy
    simp only at hy
    cases hq : Zce h r os.tail l with
    | none => rw [hq] at hy; cases r <;> cases hy
    | some q =>
     rw [hq] at hy
     have h1 := asO_ok (n := n) hK t (ownHd os) x p hp (fun e id sz he hx => hn 0 id (by simp only [ownIds, he, hx, consId]; rfl))
     have hids : (∃ id, ownIds os (x :: l) = id :: ownIds os.tail l ∧ (ownObj t (ownHd os) p).length = 1 ∧ ∀ (j : Nat) (ob : TObj), (ownObj t (ownHd os) p)[j]? = some ob → j = 0 ∧ h[id]? = some ob) ∨ (ownIds os (x :: l) = ownIds os.tail l ∧ ownObj t (ownHd os) p = []) := by
      rcases h1.2 with ⟨e, id, sz, u, zs, he, hx, hid, hob⟩ | ⟨hob, hno⟩
      ·refine .inl ⟨id, by simp only [ownIds, he, hx, consId], by rw [hob]; rfl, fun j ob hj => ?_⟩
       rw [hob] at hj
       cases j with
       | zero => simp at hj; subst hj; exact ⟨rfl, hid⟩
       | succ j => simp at hj
      ·refine .inr ⟨?_, hob⟩
       exact Zi2 hno
     have step : ∀ (n' : Nat), n' = n + (ownObj t (ownHd os) p).length → AV.leL ((SV.toAVL h l).map (AV.sub (Z1o K))) (avLO n' r os.tail q) ∧ (∀ (j : Nat) (ob : TObj), (ownObjs r os.tail q)[j]? = some ob → ∃ id, (ownIds os.tail l)[j]? = some id ∧ h[id]? = some ob) ∧ (ownIds os.tail l).length = (ownObjs r os.tail q).length := by
      intro n' hn'
      refine ih os.tail l q n' hq (fun j id hj => ?_)
      rcases hids with ⟨id0, e1, e2, _⟩ | ⟨e1, e2⟩
      ·have := hn (j + 1) id (by rw [e1]; simpa using hj)
       rw [hn', e2, show n + 1 + j = n + (j + 1) by omega]; exact this
      ·rw [hn', e2]; exact hn j id (by rw [e1]; exact hj)
     have comb : ∀ (l2 : List TObj), (∀ (j : Nat) (ob : TObj), l2[j]? = some ob → ∃ id, (ownIds os.tail l)[j]? = some id ∧ h[id]? = some ob) → (ownIds os.tail l).length = l2.length →
       (∀ (j : Nat) (ob : TObj), (ownObj t (ownHd os) p ++ l2)[j]? = some ob → ∃ id, (ownIds os (x :: l))[j]? = some id ∧ h[id]? = some ob) ∧ (ownIds os (x :: l)).length = (ownObj t (ownHd os) p ++ l2).length := by
      intro l2 g1 g2
      rcases hids with ⟨id0, e1, e2, e3⟩ | ⟨e1, e2⟩
      ·refine ⟨fun j ob hj => ?_, by rw [e1, List.length_append, e2, List.length_cons, g2]; omega⟩
       rw [e1]
       cases j with
       | zero =>
        rw [List.getElem?_append_left (by omega)] at hj
        exact ⟨id0, rfl, (e3 0 ob hj).2⟩
       | succ j =>
        rw [List.getElem?_append_right (by omega), e2] at hj
        obtain ⟨id, h5, h6⟩ := g1 j ob (by simpa using hj)
        exact ⟨id, by simpa using h5, h6⟩
      ·rw [e1, e2]; exact ⟨g1, g2⟩
     cases r with
     | nil =>
      cases hy
      obtain ⟨s1, s2, s3⟩ := step _ rfl
      obtain ⟨c1, c2⟩ := comb [] (fun j ob hj => by simp at hj) (by
       cases l with
       | nil => rfl
       | cons _ _ => cases hq)
      rw [List.append_nil] at c1 c2
      exact ⟨⟨h1.1, by cases l with | nil => trivial | cons _ _ => cases hq⟩, c1, c2⟩
     | cons u r =>
      cases hy
      obtain ⟨s1, s2, s3⟩ := step _ rfl
      obtain ⟨c1, c2⟩ := comb _ s2 s3
      exact ⟨⟨h1.1, s1⟩, c1, c2⟩
theorem Zid {h : List TObj} : ∀ (res : List Ty) (os : List (Option Nat)) (l : List SV) (y : denL res), Zce h res os l = some y → SV.any ∉ l := by
 intro res
 induction res with
 | nil => intro os l y hy; cases l with
  | nil => simp
  | cons x l => cases hy
 | cons t r ih =>
  intro os l y hy
  cases l with
  | nil => simp
  | cons x l =>
   simp only [Zce] at hy
   cases hp : asO h t (ownHd os) x with
   | none => rw [hp] at hy; cases hy
   | some p =>
    rw [hp] at hy
    simp only at hy
    cases hq : Zce h r os.tail l with
    | none => rw [hq] at hy; cases r <;> cases hy
    | some q =>
     have h2 := ih _ l q hq
     simp only [List.mem_cons, not_or]
     refine ⟨fun e => ?_, h2⟩
     subst e
     have hno : ∀ o, asO h t o .any = none := fun o => by
      cases o <;> cases t <;> rfl
     rw [hno] at hp; cases hp
theorem FnOKo.of (hC : CxOK P C) {f : Nat} {func : Func} (hE : Enters P f) (hf : P.funcs[f]? = some func) (hb : func.body = some root) {fn : TFo} {rs : List RV} (hrs : func.results.toList = rs.map RV.var) (hn : fn.args.length + (func.ntmps - fn.args.length) = C.n)
  (hL : LsOK P C root L) (hstep : ∀ x, exF C L root [] (retKO C fn.res fn.own rs) (Z5b fn.args x) = fn.run x) (hm0 : C.m = 0 := by rfl) : FnOKo P f fn := by
 refine ⟨hE, fun x r hr => ?_⟩
 have hlen : ∀ (ts : List Ty) (x : denL ts), (avL ts x).length = ts.length := by
  intro ts
  induction ts with
  | nil => exact fun x => rfl
  | cons t q ih =>
   intro x
   cases q with
   | nil => rfl
   | cons u q => simp only [avL, List.length_cons]; rw [ih x.2]; rfl
 refine FSpec.of_WP' hC.T hf hb (fun X hXn hXm hro hrf => ?_)
 have hst : (Z5b fn.args x).toSt = ⟨Z1d 0 (avL fn.args x), []⟩ := by
  simp only [Z5b, TSt.toSt, Za9, Zfz, Zdo, List.map_nil]
 have h1 := Zeb (β := denL fn.res) hC (X := X) (by rw [hXn, hlen]; exact hn) (hXm.trans hm0.symm) hL root [] (retKO C fn.res fn.own rs) (Z5b fn.args x) r ⟨hro, hrf⟩ rfl (by rw [hstep]; exact hr)
 unfold TW at h1
 rw [hst] at h1
 refine h1.monoR (fun e s hq => ?_)
 obtain ⟨s1, h2, h3, _⟩ := hq
 have key : Ziy C fn.res fn.own rs s1 = some r → ∃ s', (∀ a w, Rep X s a w → Rep X s' a w) ∧ Ret C.T func 0 (fun r' h => r' = retAV (avLO 0 fn.res fn.own r) ∧ h = (ownObjs fn.res fn.own r).map (TObj.toObj [])) s' := by
  intro h3
  unfold Ziy at h3
  have hno0 := Zf6 (X := X) C.TY hXm fn.res fn.own rs s1
  obtain ⟨s0, h3, hno1⟩ := Zfj hXm _ _ _ _ _ h3
  have hno := hno0.trans hno1
  simp only at h3
  have hfz := Z36 (X := X) (C := C) (s := s0) (restOf fn.own (Z1l C s0 rs))
  generalize frzFor C.TY s0 (restOf fn.own (Z1l C s0 rs)) = s2 at h3 hfz
  split at h3
  ·rename_i hnd
   have hK := noDup_ok hnd
   refine ⟨s2.toSt, (h2.trans hno).trans hfz.1, ?_⟩
   unfold Ret
   rw [hrs]
   obtain ⟨c, h4, h5⟩ := Z3h (C := C) s2 rs (Zid _ _ _ _ h3)
   rw [h4]
   obtain ⟨h6, h7, h8⟩ := resO_ok hK _ _ _ _ 0 h3 (fun j id hj => by rw [Nat.zero_add]; exact hj)
   have hlen2 : s2.toSt.heap.length = s2.heap.length := by simp [TSt.toSt]
   have hget : ∀ (j id : Nat), (ownIds fn.own (Z1l C s2 rs))[j]? = some id → ∃ ob, (ownObjs fn.res fn.own r)[j]? = some ob ∧ s2.heap[id]? = some ob := by
    intro j id hj
    have hjl : j < (ownObjs fn.res fn.own r).length := by rw [← h8]; exact (List.getElem?_eq_some_iff.1 hj).1
    obtain ⟨id', e1, e2⟩ := h7 j _ (List.getElem?_eq_getElem hjl)
    rw [hj] at e1; cases e1
    exact ⟨_, List.getElem?_eq_getElem hjl, e2⟩
   refine ⟨h5, ownIds fn.own (Z1l C s2 rs), by simpa using hK, fun i hi => ?_, _, ?_, rfl, ?_⟩
   ·obtain ⟨j, hj⟩ := List.getElem?_of_mem hi
    obtain ⟨ob, _, h9⟩ := hget j i hj
    rw [hlen2]; exact (List.getElem?_eq_some_iff.1 h9).1
   ·have e : List.range 0 ++ ownIds fn.own (Z1l C s2 rs) = ownIds fn.own (Z1l C s2 rs) := rfl
    rw [e, Z8i]
    exact Zdu h6
   ·have e : List.range 0 ++ ownIds fn.own (Z1l C s2 rs) = ownIds fn.own (Z1l C s2 rs) := rfl
    rw [e]
    apply List.ext_getElem?
    intro j
    simp only [Z1r, List.getElem?_map]
    cases hj : (ownIds fn.own (Z1l C s2 rs))[j]? with
    | none =>
     rw [List.getElem?_eq_none (by rw [← h8]; exact List.getElem?_eq_none_iff.1 hj)]; rfl
    | some id =>
     obtain ⟨ob, e1, e2⟩ := hget j id hj
     rw [e1]
     simp only [Option.map_some]
     have e3 : s2.toSt.heap[id]? = some (ob.toObj s2.heap) := by simp [TSt.toSt, e2]
     rw [e3, Option.getD_some, Zgb (ownObjs_row _ _ _ ob (List.mem_of_getElem? e1)) _ _ []]
  ·cases h3
 cases e with
 | normal => exact key h3
 | ret => exact key h3
 | _ => exact absurd h3 (by simp [retKO])
def eqNL : List Nat → List Nat → Bool
 | [], [] => true
 | x :: r, y :: q => (match decide (x = y) with | true => eqNL r q | false => false)
 | [], _ :: _ => false
 | _ :: _, [] => false
def lkO : List ((Nat × List Nat) × TFo) → Nat → List Nat → Option TFo
 | [], _ => fun _ => none
 | ((g, ks), fn) :: r, f => fun ks' => (match decide (g = f), eqNL ks ks' with | true, true => some fn | _, _ => lkO r f ks')
def OsOK (P : Program) (l : List ((Nat × List Nat) × TFo)) : Prop := ∀ f ks fn, lkO l f ks = some fn → FnOKo P f fn
theorem OsOK.nil : OsOK P [] := fun f ks fn h => by cases h
theorem OsOK.cons {l : List ((Nat × List Nat) × TFo)} {g : Nat} {ks : List Nat} {fn : TFo} (h : FnOKo P g fn) (hl : OsOK P l) : OsOK P (((g, ks), fn) :: l) := by
 intro f ks' fn' h'
 unfold lkO at h'
 split at h'
 ·rename_i he _
  cases h'
  rw [← of_decide_eq_true he]; exact h
 ·exact hl f ks' fn' h'
def eqLN : List Nat → List Nat → Bool
 | [], [] => true
 | a :: r, b :: q => (match decide (a = b) with | true => eqLN r q | false => false)
 | _, _ => false
theorem eqLN_ok : ∀ {l m : List Nat}, eqLN l m = true → l = m
 | [], [], _ => rfl
 | a :: r, b :: q, h => by
  unfold eqLN at h
  split at h
  ·rename_i e; rw [of_decide_eq_true e, eqLN_ok h]
  ·cases h
def lkL : List (List Nat × LE) → List Nat → Option LE
 | [], _ => none
 | (q, e) :: r, p => (match eqLN q p with | true => some e | false => lkL r p)
theorem LsOK.nil {k : Bool} : LsOK P C root (lkL []) k := fun p ent b h => by cases h
def Zej (root : Code) (p : List Nat) : Code := match atC root p with
 | some (.loop b) => b
 | _ => .skip
theorem LsOK.cons {k : Bool} (hC : CxOK P C) {l : List (List Nat × LE)} (hl : LsOK P C root (lkL l) k) {q : List Nat} {ent : Ent} (hfit : ent.fits C.m (Zej root q) = true)
  (hstep : ∀ iv x, exF C (lkL l) (Zej root q) (0 :: q) ent.kd (ent.head iv x) = ent.step iv x) : LsOK P C root (lkL ((q, LE.w ent) :: l)) k := by
 intro p ent' c h hat
 unfold lkL at h
 split at h
 ·rename_i he
  obtain rfl := eqLN_ok he
  cases h
  intro b hb
  subst hb
  have e : Zej root q = b := by simp only [Zej, hat]
  rw [e] at hfit hstep
  exact LoopOK.of hC hl hat hfit hstep
 ·exact hl p ent' c h hat
def lkS : List ((Nat × Nat) × SFn) → Nat → Nat → Option SFn
 | [], _, _ => none
 | (p, sf) :: r, f, g => (match decide (p.1 = f) && decide (p.2 = g) with | true => some sf | false => lkS r f g)
def SoOK (P : Program) (f g : Nat) (sf : SFn) : Prop := Enters P f ∧ sf.t.plain = true ∧ ∀ xs ys, sf.run xs = some ys → Z96 P f g sf xs ys
def SsOK (P : Program) (l : List ((Nat × Nat) × SFn)) : Prop := ∀ f g sf, lkS l f g = some sf → SoOK P f g sf
theorem SsOK.nil {P : Program} : SsOK P [] := fun f g sf h => by cases h
theorem SsOK.cons {P : Program} {f g : Nat} {sf : SFn} {l : List ((Nat × Nat) × SFn)} (h : SoOK P f g sf) (k : SsOK P l) : SsOK P (((f, g), sf) :: l) := by
 intro f' g' sf' h'
 simp only [lkS] at h'
 cases hd : decide (f = f') && decide (g = g') with
 | true =>
  rw [hd] at h'
  cases h'
  rw [Bool.and_eq_true, decide_eq_true_eq, decide_eq_true_eq] at hd
  obtain ⟨rfl, rfl⟩ := hd
  exact h
 | false => rw [hd] at h'; exact k f' g' sf' h'
def lkF : List ((Nat × List Nat) × TFn) → Nat → List Nat → Option TFn
 | [], _ => fun _ => none
 | ((g, ks), fn) :: r, f => fun ks' => (match decide (g = f), eqNL ks ks' with | true, true => some fn | _, _ => lkF r f ks')
def FsOK (P : Program) (l : List ((Nat × List Nat) × TFn)) : Prop := ∀ f ks fn, lkF l f ks = some fn → FnOK P f fn
theorem FsOK.nil : FsOK P [] := fun f ks fn h => by cases h
theorem FsOK.cons {l : List ((Nat × List Nat) × TFn)} {g : Nat} {ks : List Nat} {fn : TFn} (h : FnOK P g fn) (hl : FsOK P l) : FsOK P (((g, ks), fn) :: l) := by
 intro f ks' fn' h'
 unfold lkF at h'
 split at h'
 ·rename_i he _
  cases h'
  rw [← of_decide_eq_true he]; exact h
 ·exact hl f ks' fn' h'
def lkP : List (Nat × Nat × Plan) → Nat → Option (Nat × Plan)
 | [], _ => none
 | p :: r, i => if i = p.1 then some p.2 else lkP r i
def lkD : List (Nat × Nat × List (Nat × Bool) × Option (Nat × List (Nat × Bool) × Nat × List (Nat × Bool))) → Nat → Option (Nat × List (Nat × Bool) × Option (Nat × List (Nat × Bool) × Nat × List (Nat × Bool)))
 | [], _ => none
 | (r, d) :: l, k => (match decide (r = k) with | true => some d | false => lkD l k)
def lkT : List (Nat × Ty) → Nat → Option Ty
 | [], _ => none
 | (r, d) :: l, k => (match decide (r = k) with | true => some d | false => lkT l k)
end
end Go.Proofs.YtnehieeplbgaiacDoor.Eng
set_option linter.unusedVariables false
set_option linter.unusedSimpArgs false
namespace Go.Proofs.YtnehieeplbgaiacDoor.Eng
open Go Go.RowKit
def rangeM : Nat → List (Nat × Nat)
 | 0 => []
 | n + 1 => (n, n) :: rangeM n
def prefB : Nat → Nat → List Nat → Bool
 | _, 0, _ => true
 | k, n + 1, x :: r => decide (x = k) && prefB (k + 1) n r
 | _, _ + 1, [] => false
def noAnyB : List SV → Bool
 | [] => true
 | x :: r => (match x with | .any => false | _ => noAnyB r)
noncomputable def Z8u {β : Type} : List OB → List Nat → TSt → (TSt → Option β) → Option β
 | .lin _ _ _ :: obs, id :: r, s, k => (match nth s.heap id with
  | some (.lin e ei t (some c) none xs) => ck (c = List.length xs) (Z8u obs r ⟨s.env, setH s.heap id (.lin e ei t none none xs)⟩ k)
  | _ => Z8u obs r s k)
 | _ :: obs, _ :: r, s, k => Z8u obs r s k
 | _, _, s, k => k s
noncomputable def Zix (C : Cx) (fn : TFw) (rs : List RV) (s : TSt) : Option (denL fn.outs.tys) := match Z9u s.heap fn.outs (Z1l C s rs) (rangeM C.m) with
 | some keep => Z8u fn.outs.objs keep s fun s =>
  let s1 := freezeAllT C.TY s (Zbl keep (Z9x s.heap (SV.ids0L (Z1l C s rs) ++ keep)))
  (match Zif s1.heap.length keep && prefB 0 C.m keep && noAnyB (Z1l C s1 rs) with
  | true => decO fn.outs ⟨Z5l 0 ((Z1l C s1 rs).map (SV.sub (renS keep))), Z28 keep s1.heap⟩
  | false => none)
 | none => none
noncomputable def Ziw (C : Cx) (fn : TFw) (rs : List RV) (e : Exit) (s : TSt) : Option (denL fn.outs.tys) := match e with
 | .normal => Zix C fn rs s
 | .ret => Zix C fn rs s
 | _ => none
section
variable {P : Program} {C : Cx} {X : Ctx} {root : Code} {L : List Nat → Option LE}
theorem prefB_ok : ∀ (n k : Nat) (l : List Nat), prefB k n l = true → l = (List.range' k n) ++ l.drop n
 | 0, k, l, _ => by simp
 | n + 1, k, [], h => by simp [prefB] at h
 | n + 1, k, x :: r, h => by
  simp only [prefB, Bool.and_eq_true, decide_eq_true_eq] at h
  obtain ⟨rfl, h⟩ := h
  have := prefB_ok n (x + 1) r h
  rw [List.range'_succ, List.drop_succ_cons, List.cons_append, ← this]
theorem noAnyB_ok : ∀ (l : List SV), noAnyB l = true → SV.any ∉ l
 | [], _ => by simp
 | x :: r, h => by
  unfold noAnyB at h
  split at h
  ·cases h
  ·rename_i hx
   simp only [List.mem_cons, not_or]
   exact ⟨fun e => hx e.symm, noAnyB_ok r h⟩
theorem retL_av (h : List TObj) : ∀ l : List SV, (retL l).toAV h = retAV (l.map (SV.toAV h))
 | [] => rfl
 | [x] => rfl
 | x :: y :: r => by simp only [retL, SV.toAV, SV.toAVL_eq, List.map_cons, retAV]
theorem Says.one {keep : List Nat} {h h0 : List AObj} {args args' : List AV} (hs : Says keep h args h0 args') : Says keep h [retAV args] h0 [retAV args'] := by
 obtain ⟨h1, h2, h3⟩ := hs
 refine ⟨rfl, h2, fun σ F w hr => ?_⟩
 obtain ⟨h4, h5⟩ := h3 σ F w hr
 refine ⟨h4, fun j x x' v hx hx' hv => ?_⟩
 have e : j = 0 := by have := (List.getElem?_eq_some_iff.1 hx).1; simpa using this
 subst e
 simp only [List.getElem?_cons_zero, Option.some.injEq] at hx hx'
 subst hx hx'
 match args, args', h1 with
 | [], [], _ =>
  obtain ⟨vs, rfl, hl, hv⟩ := RepV.tupv (show RepV σ F w (.tup []) v from hv)
  exact .tup _ vs hl (fun j x u hx => by simp at hx)
 | [x], [x'], _ => exact h5 0 x x' v rfl rfl hv
 | x :: y :: r, x' :: y' :: r', h1 =>
  obtain ⟨vs, rfl, hl, hv⟩ := RepV.tupv (show RepV σ F w (.tup (x :: y :: r)) v from hv)
  refine .tup _ vs (by rw [← hl]; exact h1) (fun j z u hz hu => ?_)
  have hj : j < (x :: y :: r).length := by rw [← h1]; exact (List.getElem?_eq_some_iff.1 hz).1
  exact h5 j _ z u (List.getElem?_eq_getElem hj) hz (hv j _ u (List.getElem?_eq_getElem hj) hu)
theorem Z79 (s : TSt) : ∀ rs : List RV, (Z1l C s rs).length = rs.length
 | [] => rfl
 | r :: l => by simp [Z1l, Z79 s l]
theorem Zjo {s : TSt} {id e ei c : Nat} {t : Ty} {xs : List t.den} (hq : nth s.heap id = some (.lin e ei t (some c) none xs)) (hc : c = List.length xs) : Imp X s.toSt (TSt.toSt ⟨s.env, setH s.heap id (.lin e ei t none none xs)⟩) := fun a w hr => by
 have hw : s.wf := by obtain ⟨σ, F, h⟩ := hr; exact Zap h
 have hq' := Z1m (h := s.heap) hq
 have hid : id < s.heap.length := by rw [Z3] at hq; exact (List.getElem?_eq_some_iff.1 hq).1
 have h1 := hr.fullLin (id := id) (e := e) (ei := ei) (sz := t.size) (isz := t.isz) (es := xs.map t.cells) (by rw [hq', hc]; simp)
 have hrow : ∀ j, j < s.heap.length → rowLen s.heap j = rowLen (setH s.heap id (.lin e ei t none none xs)) j := fun j hj => by
  rw [Z8, Z8, setH_eq]
  by_cases h : id = j
  ·subst h
   rw [Z3] at hq
   rw [List.getElem?_set_self hid, hq]
  ·rw [List.getElem?_set_ne h]
 refine h1.weak ⟨fun i => ?_, by simp [TSt.toSt, setH_eq], fun i o o' ho ho' => ?_⟩
 ·simp only [TSt.toSt, Zf]
  rw [Zcu hrow _ (hw.1 i)]; exact .refl _
 ·simp only [TSt.toSt, setH_eq, List.getElem?_map] at ho ho'
  by_cases h : id = i
  ·subst h
   rw [List.getElem?_set_self (by simpa using hid)] at ho
   rw [List.getElem?_set_self hid] at ho'
   cases ho; cases ho'
   exact ObjLe.refl _
  ·rw [List.getElem?_set_ne h, List.getElem?_map] at ho
   rw [List.getElem?_set_ne h] at ho'
   cases hx : s.heap[i]? with
   | none => rw [hx] at ho; cases ho
   | some x =>
    rw [hx] at ho ho'
    simp only [Option.map_some, Option.some.injEq] at ho ho'
    subst ho ho'
    cases x with
    | box eb cs =>
     refine ⟨rfl, Z7i ?_⟩
     have := Z48 hrow cs (hw.2 i eb cs hx)
     rw [setH_eq] at this
     exact this
    | _ => exact ObjLe.refl _
theorem Zhk {β : Type} : ∀ (obs : List OB) (ids : List Nat) (s : TSt) (k : TSt → Option β) (r : β), Z8u obs ids s k = some r → ∃ s', k s' = some r ∧ Imp X s.toSt s'.toSt := by
 intro obs
 induction obs with
 | nil =>
  intro ids s k r h
  exact ⟨s, by cases ids <;> exact h, .refl _ _⟩
 | cons ob obs ih =>
  intro ids s k r h
  cases ids with
  | nil => exact ⟨s, by cases ob <;> exact h, .refl _ _⟩
  | cons id ids =>
   cases ob with
   | lin e ei t =>
    unfold Z8u at h
    split at h
    ·rename_i e' ei' t' c xs hq
     obtain ⟨h1, h2⟩ := Z3r h
     obtain ⟨s', h3, h4⟩ := ih _ _ _ _ h2
     exact ⟨s', h3, (Zjo hq h1).trans h4⟩
    ·exact ih _ _ _ _ h
   | _ => exact ih _ _ _ _ h
def mvS (i n : Nat) : SV → SV
 | .own j sz => .own (mvN i n j) sz
 | .cut j sz off len => .cut (mvN i n j) sz off len
 | .ptr j k sz q => .ptr (mvN i n j) k sz q
 | .nm j k => .nm (mvN i n j) k
 | x => x
def TSt.moved (s : TSt) (i : Nat) (o : TObj) : TSt := (s.subAll (mvS i s.heap.length) i .dead).push o
def moveT (s : TSt) (i : Nat) : TSt := match nth s.heap i with
 | some (.row e t xs) => s.moved i (.row e t xs)
 | some (.lin e ei t part hole xs) => s.moved i (.lin e ei t part hole xs)
 | _ => s
def movesT : List Nat → TSt → TSt
 | [], s => s
 | i :: r, s => movesT r (moveT s i)
theorem Zbp {s : TSt} {i : Nat} {o : TObj} (ho : s.heap[i]? = some o) (hb : ∀ e cs, o ≠ .box e cs) : Imp X s.toSt (s.moved i o).toSt := fun a w hr => by
 have hw : s.wf := by obtain ⟨σ, F, h⟩ := hr; exact Zap h
 obtain ⟨σ, F, hr⟩ := hr
 have hi : i < s.heap.length := (List.getElem?_eq_some_iff.1 ho).1
 have hoa : s.toSt.heap[i]? = some (o.toObj s.heap) := by simp [TSt.toSt, ho]
 have h1 := hr.move hoa
 have hsl : s.toSt.heap.length = s.heap.length := by simp [TSt.toSt]
 generalize hn : s.heap.length = n at *
 rw [hsl] at h1
 let H' := (s.moved i o).heap
 have hH : H' = setH (s.heap.map (TObj.sub (mvS i n))) i .dead ++ [o] := by simp only [H', TSt.moved, TSt.push, TSt.subAll, hn]
 have hget : ∀ id, id < n → id ≠ i → H'[id]? = (s.heap[id]?).map (TObj.sub (mvS i n)) := fun id hid hne => by
  rw [hH, setH_eq, List.getElem?_append_left (by simp [hn]; exact hid), List.getElem?_set, if_neg (fun h => hne h.symm), List.getElem?_map]
 have hgn : H'[n]? = some o := by
  rw [hH, setH_eq, List.getElem?_append_right (by simp [hn])]; simp [hn]
 have hgi : H'[i]? = some .dead := by
  rw [hH, setH_eq, List.getElem?_append_left (by simp [hn]; exact hi), List.getElem?_set, if_pos rfl, if_pos (by simp [hn]; exact hi)]
 have hrow : ∀ id, id < n → rowLen s.heap id = rowLen H' (mvN i n id) := fun id hid => by
  unfold mvN
  by_cases e : id = i
  ·subst e
   rw [if_pos rfl, Z8, Z8, ho, hgn]
  ·rw [if_neg e, Z8, Z8, hget id hid e]
   cases s.heap[id]? with
   | none => rfl
   | some q => exact (Z31 q _).symm
 have ok : SubLt n (mvA i n) (mvS i n) s.heap H' := by
  refine ⟨fun id sz hid => ?_, fun id sz off len _ => .refl _, fun id k sz j _ => .refl _, fun id q _ => .refl _⟩
  simp only [mvA, mvS, SV.toAV]
  rw [hrow id hid]; exact .refl _
 have hsn : s.toSt.heap.length = n := hsl
 have hobj : ∀ q : TObj, (∀ e cs, q = .box e cs → SV.idsLtL n cs) → ObjLe ((q.toObj s.heap).sub (mvA i n)) ((q.sub (mvS i n)).toObj H') := fun q hq => by
  cases q with
  | box e cs => exact ⟨rfl, Z2w ok cs (hq e cs rfl)⟩
  | _ => exact ObjLe.refl _
 have hrep : Rep X _ a w := ⟨_, _, h1⟩
 refine hrep.weak ⟨fun j => ?_, ?_, fun id q q' hq hq' => ?_⟩
 ·simp only [St.moved, Zn, hsn]
  have := Z9a ok _ (hn ▸ hw.1 j)
  rw [hH] at this
  simpa only [TSt.toSt, Zf, TSt.moved, TSt.push, TSt.subAll, Z1t (SV.sub (mvS i n)) rfl, hn] using this
 ·simp [St.moved, TSt.toSt, TSt.moved, TSt.push, TSt.subAll, setH_eq]
 ·have hq1 : (s.moved i o).toSt.heap[id]? = (H'[id]?).map (TObj.toObj H') := by simp only [TSt.toSt, List.getElem?_map, H']
  rw [hq1] at hq'
  simp only [St.moved, hsn] at hq
  have hl2 : ((s.toSt.heap.map (AObj.sub (mvA i n))).set i .dead).length = n := by simp [hsn]
  rcases Nat.lt_or_ge id n with hlt | hge
  ·rw [List.getElem?_append_left (by rw [hl2]; exact hlt), List.getElem?_set] at hq
   by_cases e : i = id
   ·subst e
    rw [if_pos rfl, if_pos (by simpa [hsn] using hlt)] at hq
    rw [hgi] at hq'
    cases hq; cases hq'
    exact ObjLe.refl _
   ·rw [if_neg e] at hq
    rw [hget id hlt (fun h => e h.symm)] at hq'
    simp only [TSt.toSt, List.getElem?_map] at hq
    cases hx : s.heap[id]? with
    | none => rw [hx] at hq; cases hq
    | some x =>
     rw [hx] at hq hq'
     simp only [Option.map_some, Option.some.injEq] at hq hq'
     subst hq hq'
     exact hobj x (fun e cs h => hn ▸ hw.2 id e cs (by rw [hx, h]))
  ·rw [List.getElem?_append_right (by rw [hl2]; exact hge), hl2] at hq
   cases hk : id - n with
   | succ k => rw [hk] at hq; simp at hq
   | zero =>
    rw [hk] at hq
    simp at hq
    have e : id = n := by omega
    subst e
    rw [hgn] at hq'
    simp at hq'
    subst hq hq'
    cases o with
    | box e cs => exact absurd rfl (hb e cs)
    | _ => exact ObjLe.refl _
theorem Zgs (s : TSt) (i : Nat) : Imp X s.toSt (moveT s i).toSt := by
 unfold moveT
 split
 ·rename_i h; exact Zbp (by rw [← Z3]; exact h) (by simp)
 ·rename_i h; exact Zbp (by rw [← Z3]; exact h) (by simp)
 ·exact .refl _ _
theorem movesT_imp : ∀ (l : List Nat) (s : TSt), Imp X s.toSt (movesT l s).toSt
 | [], s => .refl _ _
 | i :: r, s => (Zgs s i).trans (movesT_imp r _)
theorem FnOKw.ofM (mv : List Nat) (hC : CxOK P C) {f : Nat} {func : Func} (hE : Enters P f) (hf : P.funcs[f]? = some func) (hb : func.body = some root) {fn : TFw} {rs : List RV} (hrs : func.results.toList = rs.map RV.var) (hn : fn.ins.slots.length + (func.ntmps - fn.ins.slots.length) = C.n)
  (hL : LsOK P C root L) (hm : ∀ x, (encS fn.ins x []).heap.length = C.m) (hk : fn.ins.slots.map (·.1) = List.range fn.ins.slots.length) (hko : fn.outs.slots.map (·.1) = List.range rs.length) (hnr : fn.nr = rs.length)
  (hstep : ∀ x, exF C L root [] (Ziw C fn rs) (movesT mv (encS fn.ins x [])) = fn.run x) : FnOKw P f fn := by
 refine ⟨hE, hk, fun x r hr => ?_⟩
 have hlen0 : (encS fn.ins x []).toSt.heap.length = C.m := by rw [← hm x]; simp [TSt.toSt]
 have hal : ((Z2h (encS fn.ins x []).env 0 fn.ins.slots.length).map (SV.toAV (encS fn.ins x []).heap)).length = fn.ins.slots.length := by simp [Z66]
 refine FSpec.of_WPw hC.T hf hb (fun X hXn hXm hro hrf => ?_)
 rw [hal] at hXn
 rw [hlen0] at hXm ⊢
 have h1 := Zeb (β := denL fn.outs.tys) hC (X := X) (hXn.trans hn) hXm hL root [] (Ziw C fn rs) (movesT mv (encS fn.ins x [])) r ⟨hro, hrf⟩ rfl (by rw [hstep]; exact hr)
 unfold TW at h1
 replace h1 := WP.from (movesT_imp mv (encS fn.ins x [])) h1
 have hle : St.le ⟨Z1d 0 ((Z2h (encS fn.ins x []).env 0 fn.ins.slots.length).map (SV.toAV (encS fn.ins x []).heap)), (encS fn.ins x []).toSt.heap⟩ (encS fn.ins x []).toSt := by
  refine ⟨rfl, fun i => ?_⟩
  rw [envGet_enum, if_pos (Nat.zero_le _), Nat.sub_zero]
  simp only [TSt.toSt, Zf]
  rw [List.getElem?_map, Z67]
  by_cases hi : i < fn.ins.slots.length
  ·rw [if_pos hi, Option.map_some, Option.getD_some, Nat.zero_add]; exact .refl _
  ·rw [if_neg hi, Option.map_none, Option.getD_none]
   have : tget (encS fn.ins x []).env i = .any := tget_not _ i (fun hmem => by
    rw [Zaa, List.append_nil] at hmem
    have h2 := encSlots_keys _ _ i hmem
    have h3 : i ∈ List.range fn.ins.slots.length := by rw [← hk]; exact h2
    exact hi (List.mem_range.1 h3))
   rw [this]; exact .refl _
 refine WP.le hle (h1.monoR (fun e s hq => ?_))
 obtain ⟨s1, h2, h3, _⟩ := hq
 have key : Zix C fn rs s1 = some r → ∃ s', (∀ a w, Rep X s a w → Rep X s' a w) ∧ RetW C.T func C.m (fun ret h => ret = (retL (Z2h (encS fn.outs r []).env 0 fn.nr)).toAV (encS fn.outs r []).heap ∧ h = (encS fn.outs r []).toSt.heap) s' := by
  intro h3
  unfold Zix at h3
  split at h3
  ·rename_i keep hkeep
   obtain ⟨hkl, hnd⟩ := Z8o hkeep
   obtain ⟨s1, h3, hfu⟩ := Zhk (X := X) _ _ _ _ _ h3
   have h2 := h2.trans hfu
   have hfz := Z13 (X := X) C.TY (Zbl keep (Z9x s1.heap (SV.ids0L (Z1l C s1 rs) ++ keep))) s1
   generalize freezeAllT C.TY s1 (Zbl keep (Z9x s1.heap (SV.ids0L (Z1l C s1 rs) ++ keep))) = s2 at h3 hfz
   simp only at h3
   split at h3
   ·rename_i hch
    simp only [Bool.and_eq_true] at hch
    obtain ⟨⟨hlt, hpre⟩, hna⟩ := hch
    have hin := Zam hlt
    have hke : keep = List.range C.m ++ keep.drop C.m := by
     have := prefB_ok _ _ _ hpre
     rwa [← List.range_eq_range'] at this
    refine ⟨s2.toSt, h2.trans hfz.1, ?_⟩
    unfold RetW
    rw [hrs]
    obtain ⟨c, h4, h5⟩ := Z3h (C := C) s2 rs (noAnyB_ok _ hna)
    rw [h4]
    refine ⟨h5, keep.drop C.m, by rw [← hke]; exact hnd, fun i hi => by simpa [TSt.toSt] using hin i (List.mem_of_mem_drop hi), _, _, ⟨rfl, rfl⟩, ?_⟩
    rw [← hke]
    have hs := Zei (H := s2.heap) h3 hkl (fun j hj => by rw [hko, List.mem_range, ← Z79 (C := C) s2 rs]; exact hj) hnd hin
    rw [Z79] at hs
    have ho := hs.one
    rw [SV.toAVL_eq, retL_av, hnr]
    exact ho
   ·cases h3
  ·cases h3
 cases e with
 | normal => exact key h3
 | ret => exact key h3
 | _ => exact absurd h3 (by simp [Ziw])
theorem FnOKw.of (hC : CxOK P C) {f : Nat} {func : Func} (hE : Enters P f) (hf : P.funcs[f]? = some func) (hb : func.body = some root) {fn : TFw} {rs : List RV} (hrs : func.results.toList = rs.map RV.var) (hn : fn.ins.slots.length + (func.ntmps - fn.ins.slots.length) = C.n)
  (hL : LsOK P C root L) (hm : ∀ x, (encS fn.ins x []).heap.length = C.m) (hk : fn.ins.slots.map (·.1) = List.range fn.ins.slots.length) (hko : fn.outs.slots.map (·.1) = List.range rs.length) (hnr : fn.nr = rs.length)
  (hstep : ∀ x, exF C L root [] (Ziw C fn rs) (encS fn.ins x []) = fn.run x) : FnOKw P f fn := .ofM [] hC hE hf hb hrs hn hL hm hk hko hnr hstep
theorem TrsOK.nil {T : Tab} : ∀ f b e, trGet [] f = some (b, e) → TrOK P T f b e := fun f b e h => by cases h
theorem TrsOK.cons {T : Tab} {g : Nat} {c : Bool} {d : Nat} {r : List (Nat × Bool × Nat)} (h : TrOK P T g c d) (hr : ∀ f b e, trGet r f = some (b, e) → TrOK P T f b e) : ∀ f b e, trGet ((g, c, d) :: r) f = some (b, e) → TrOK P T f b e := fun f b e hx => by
 unfold trGet at hx
 split at hx
 ·rename_i hg
  cases hx
  rw [← of_decide_eq_true hg]; exact h
 ·exact hr f b e hx
def lkW : List ((Nat × List Nat) × TFw) → Nat → List Nat → Option TFw
 | [], _ => fun _ => none
 | ((g, ks), fn) :: r, f => fun ks' => (match decide (g = f), eqNL ks ks' with | true, true => some fn | _, _ => lkW r f ks')
def WsOK (P : Program) (l : List ((Nat × List Nat) × TFw)) : Prop := ∀ f ks fn, lkW l f ks = some fn → FnOKw P f fn
theorem WsOK.nil : WsOK P [] := fun f ks fn h => by cases h
theorem WsOK.cons {l : List ((Nat × List Nat) × TFw)} {g : Nat} {ks : List Nat} {fn : TFw} (h : FnOKw P g fn) (hl : WsOK P l) : WsOK P (((g, ks), fn) :: l) := by
 intro f ks' fn' h'
 unfold lkW at h'
 split at h'
 ·rename_i he _
  cases h'
  rw [← of_decide_eq_true he]; exact h
 ·exact hl f ks' fn' h'
end
end Go.Proofs.YtnehieeplbgaiacDoor.Eng
set_option linter.unusedVariables false
namespace Go.Proofs.YtnehieeplbgaiacDoor.Eng
open Go
section
variable {α β γ : Type}
inductive Tr where
 | leaf
 | node (a b : Tr)
noncomputable def mix : Tr → Option β → Option β
 | .leaf, t => t
 | .node a b, t => both (mix a t) (mix b t)
theorem mix_eq : ∀ (s : Tr) (t : Option β), mix s t = t
 | .leaf, t => rfl
 | .node a b, t => by rw [mix, mix_eq a, mix_eq b]; exact Zcb t
theorem cb_t {x y : Option β} : cb true x y = x := rfl
theorem cb_f {x y : Option β} : cb false x y = y := rfl
theorem Zb {p : Prop} [h : Decidable p] {x y : Option β} : cb (decide p) x y = if p then x else y := by
 by_cases hp : p <;> simp [hp, cb]
theorem Z1b {b : Bool} {x y : Option β} : cb (!b) x y = cb b y x := by cases b <;> rfl
theorem ob_s {a : α} {k : α → Option β} : ob (some a) k = k a := rfl
theorem Zdh {a : α} {f : α → Option β} {g : γ → Option β} : Zae (.inl a) f g = f a := rfl
theorem Z80 {a : γ} {f : α → Option β} {g : γ → Option β} : Zae (.inr a) f g = g a := rfl
theorem Z1p {x : Int} {a : Option β} (h1 : -9223372036854775808 ≤ x) (h2 : x ≤ 9223372036854775807) : ck (InR x) a = a := Z1 ⟨h1, h2⟩
theorem rd_nat (d : α) (xs : List α) (k : Nat) : rd d xs (k : Int) = xs.getD k d := rfl
theorem rd_some {d : α} {xs : List α} {k : Nat} {x : α} (h : xs[k]? = some x) : rd d xs (k : Int) = x := by rw [rd_nat, List.getD, h]; rfl
theorem Z2v {d : α} {xs : List α} {k : Nat} (h : k < xs.length) : rd d xs (k : Int) = xs[k] := rd_some (List.getElem?_eq_getElem h)
theorem Zm {X R : Type} {f : X → Option (X ⊕ R)} {x : X} {r : R} (h : f x = some (.inr r)) : Z1c f x = some r := by rw [Z8n, h]
theorem Zi {X R : Type} {f : X → Option (X ⊕ R)} {x x' : X} (h : f x = some (.inl x')) : Z1c f x = Z1c f x' := by rw [Z8n, h]
end
end Go.Proofs.YtnehieeplbgaiacDoor.Eng
set_option linter.unusedVariables false
set_option linter.unusedSimpArgs false
namespace Go.Proofs.YtnehieeplbgaiacDoor.Eng
open Go Go.RowKit
def tyLB (S : Nat → Ty → Bool) : List Nat → Ty → Bool
 | [e], ty => S e ty
 | e :: e2 :: r, .pair a b => S e a && tyLB S (e2 :: r) b
 | _, _ => false
def tyB (T : Tab) : Nat → Nat → Ty → Bool
 | 0, _, _ => false
 | m + 1, t, .int k => (match T t with | some ⟨.int k', _, _, _⟩ => decide (k' = k) | _ => false)
 | m + 1, t, .byte => (match T t with | some ⟨.int k', _, _, _⟩ => decide (k' = .u8) | _ => false)
 | m + 1, t, .bool => (match T t with | some ⟨.bool, _, _, _⟩ => true | _ => false)
 | m + 1, t, .str => (match T t with | some ⟨.str, _, _, _⟩ => true | _ => false)
 | m + 1, t, .slice u => (match T t with | some ⟨.slice e, _, _, _⟩ => (match T e with | some i => decide (i.size = u.size) && tyB T m e u | none => false) | _ => false)
 | m + 1, t, .one u => (match T t with | some ⟨.struct fs, _, _, _⟩ => tyLB (tyB T m) (fs.map (·.2)) u | _ => false)
 | m + 1, t, .pair a b => (match T t with | some ⟨.struct fs, _, _, _⟩ => tyLB (tyB T m) (fs.map (·.2)) (.pair a b) | _ => false)
 | m + 1, _, .ptr _ => false
 | m + 1, _, .nilS => false
 | m + 1, _, .nilI => false
 | m + 1, _, .adr => false
 | m + 1, _, .mp _ => false
 | m + 1, _, .mq _ => false
 | m + 1, _, .fnc _ => false
 | m + 1, _, .clo _ _ => false
 | m + 1, _, .ref _ => false
def InL (S : Nat → (ty : Ty) → ty.den → Prop) : List Nat → (ty : Ty) → ty.den → Prop
 | [e], ty, x => S e ty x
 | e :: e2 :: r, .pair a b, x => S e a x.1 ∧ InL S (e2 :: r) b x.2
 | _, _, _ => True
def InD (T : Tab) : Nat → Nat → (ty : Ty) → ty.den → Prop
 | 0, _, _, _ => True
 | m + 1, t, .int k, x => (Lit.int k x).wf = true
 | m + 1, t, .str, x => ByteArray.size x ≤ reachBytes
 | m + 1, t, .slice u, xs => (match T t with | some ⟨.slice e, _, _, _⟩ => (match T e with | some i => List.length xs * i.bytes ≤ reachBytes ∧ ∀ x : u.den, List.Mem x xs → InD T m e u x | none => True) | _ => True)
 | m + 1, t, .one u, x => (match T t with | some ⟨.struct fs, _, _, _⟩ => InL (InD T m) (fs.map (·.2)) u x | _ => True)
 | m + 1, t, .pair a b, x => (match T t with | some ⟨.struct fs, _, _, _⟩ => InL (InD T m) (fs.map (·.2)) (.pair a b) x | _ => True)
 | _, _, _, _ => True
theorem Zb4 {S : Nat → List AV → Prop} {B : Nat → Ty → Bool} {D : Nat → (ty : Ty) → ty.den → Prop} (h : ∀ e ty xs, B e ty = true → S e xs → ∃ x : ty.den, xs = ty.cells x ∧ D e ty x) :
  ∀ (es : List Nat) (ty : Ty) (xs : List AV), tyLB B es ty = true → Zer S es xs → ∃ x : ty.den, xs = ty.cells x ∧ InL D es ty x := by
 intro es
 induction es with
 | nil => intro ty xs hb _; cases ty <;> cases hb
 | cons e r ih =>
  intro ty xs hb hs
  obtain ⟨a, b, rfl, ha, hb'⟩ := hs
  cases r with
  | nil =>
   have e0 : b = [] := hb'
   subst e0
   have hb2 : B e ty = true := by cases ty <;> exact hb
   obtain ⟨x, h1, h2⟩ := h e ty a hb2 ha
   refine ⟨x, by rw [h1, List.append_nil], ?_⟩
   cases ty <;> exact h2
  | cons e2 r =>
   cases ty with
   | pair p q =>
    simp only [tyLB, Bool.and_eq_true] at hb
    obtain ⟨x, h1, h2⟩ := h e p a hb.1 ha
    obtain ⟨y, h3, h4⟩ := ih q b hb.2 hb'
    exact ⟨(x, y), by rw [h1, h3]; rfl, h2, h4⟩
   | int _ => cases hb
   | byte => cases hb
   | bool => cases hb
   | str => cases hb
   | slice _ => cases hb
   | one _ => cases hb
   | ptr _ => cases hb
   | nilS => cases hb
   | nilI => cases hb
   | adr => cases hb
   | mp t => cases hb
   | mq t => cases hb
   | fnc _ => cases hb
   | clo _ _ => cases hb
   | ref _ => cases hb
theorem Zhx {u : Ty} {D : u.den → Prop} : ∀ {es : List (List AV)}, (∀ c ∈ es, ∃ x : u.den, c = u.cells x ∧ D x) → ∃ l : List u.den, es = l.map u.cells ∧ ∀ x ∈ l, D x
 | [], _ => ⟨[], rfl, fun x h => by cases h⟩
 | c :: es, h => by
  obtain ⟨a, rfl, ha⟩ := h c (List.mem_cons_self ..)
  obtain ⟨l, rfl, hl⟩ := Zhx (D := D) (fun c hc => h c (List.mem_cons_of_mem _ hc))
  refine ⟨a :: l, rfl, fun x hx => ?_⟩
  rcases List.mem_cons.1 hx with rfl | hx
  ·exact ha
  ·exact hl x hx
theorem Z9e {T : Tab} : ∀ (m t : Nat) (ty : Ty) (xs : List AV), tyB T m t ty = true → ShapeC T m t xs → ∃ x : ty.den, xs = ty.cells x ∧ InD T m t ty x
 | 0, _, _, _, h, _ => by cases h
 | m + 1, t, ty, xs, h, hs => by
  have ih := Z9e (T := T) m
  unfold ShapeC at hs
  cases ty with
  | int k =>
   simp only [tyB] at h
   split at h
   ·rename_i ht
    rw [ht] at hs
    obtain ⟨n, rfl, hn⟩ := hs
    rw [of_decide_eq_true h] at hn ⊢
    exact ⟨n, rfl, hn⟩
   ·cases h
  | byte =>
   simp only [tyB] at h
   split at h
   ·rename_i ht
    rw [ht] at hs
    obtain ⟨n, rfl, hn⟩ := hs
    rw [of_decide_eq_true h] at hn ⊢
    have hn2 : 0 ≤ n ∧ n < 256 := by
     have h3 : decide (IntKind.u8.min ≤ n) && decide (n ≤ IntKind.u8.max) := hn
     rw [Bool.and_eq_true, decide_eq_true_eq, decide_eq_true_eq] at h3
     have e1 : IntKind.u8.min = 0 := rfl
     have e2 : IntKind.u8.max = 255 := rfl
     omega
    refine ⟨UInt8.ofNat n.toNat, ?_, trivial⟩
    have : ((UInt8.toNat (UInt8.ofNat n.toNat) : Nat) : Int) = n := by
     rw [UInt8.toNat_ofNat']
     omega
    simp only [Ty.cells]
    rw [this]
   ·cases h
  | bool =>
   simp only [tyB] at h
   split at h
   ·rename_i ht
    rw [ht] at hs
    obtain ⟨n, rfl⟩ := hs
    exact ⟨n, rfl, trivial⟩
   ·cases h
  | str =>
   simp only [tyB] at h
   split at h
   ·rename_i ht
    rw [ht] at hs
    obtain ⟨n, rfl, hn⟩ := hs
    exact ⟨n, rfl, hn⟩
   ·cases h
  | slice u =>
   simp only [tyB] at h
   split at h
   ·rename_i e _ _ _ ht
    simp only [ht] at hs
    split at h
    ·rename_i i hi
     simp only [hi] at hs
     obtain ⟨es, rfl, h1, h2⟩ := hs
     rw [Bool.and_eq_true, decide_eq_true_eq] at h
     obtain ⟨l, rfl, hl⟩ := Zhx (u := u) (fun c hc => ih e u c h.2 (h2 c hc))
     refine ⟨l, by rw [h.1]; rfl, ?_⟩
     simp only [InD, ht, hi]
     exact ⟨by simpa using h1, hl⟩
    ·cases h
   ·cases h
  | one u =>
   simp only [tyB] at h
   split at h
   ·rename_i ht
    simp only [ht] at hs
    obtain ⟨x, h1, h2⟩ := Zb4 ih _ u xs h hs
    exact ⟨x, h1, by simp only [InD, ht]; exact h2⟩
   ·cases h
  | pair a b =>
   simp only [tyB] at h
   split at h
   ·rename_i ht
    simp only [ht] at hs
    obtain ⟨x, h1, h2⟩ := Zb4 ih _ (.pair a b) xs h hs
    exact ⟨x, h1, by simp only [InD, ht]; exact h2⟩
   ·cases h
  | ptr _ => cases h
  | nilS => cases h
  | nilI => cases h
  | adr => cases h
  | mp t => cases h
  | mq t => cases h
  | fnc _ => cases h
  | clo _ _ => cases h
  | ref _ => cases h
theorem Zg6 {T : Tab} {m t : Nat} {ty : Ty} {x : AV} (h : tyB T m t ty = true) (hs : Z94 T m t x) : ∃ y : ty.den, x = ty.av y ∧ InD T m t ty y := by
 unfold Z94 at hs
 cases m with
 | zero => cases h
 | succ m =>
  cases hagg : ty.isAgg with
  | true =>
   have : ∃ fs a b c, T t = some ⟨.struct fs, a, b, c⟩ := by
    cases ty with
    | one u => simp only [tyB] at h; split at h; (· rename_i ht; exact ⟨_, _, _, _, ht⟩); (· cases h)
    | pair u v => simp only [tyB] at h; split at h; (· rename_i ht; exact ⟨_, _, _, _, ht⟩); (· cases h)
    | int _ => cases hagg
    | byte => cases hagg
    | bool => cases hagg
    | str => cases hagg
    | slice _ => cases hagg
    | ptr _ => cases hagg
    | nilS => cases hagg
    | nilI => cases hagg
    | adr => cases hagg
    | mp t => cases hagg
    | mq t => cases hagg
    | fnc _ => cases hagg
    | clo _ _ => cases hagg
    | ref _ => cases hagg
   obtain ⟨fs, a, b, c, ht⟩ := this
   simp only [ht] at hs
   obtain ⟨xs, rfl, hx⟩ := hs
   obtain ⟨y, h1, h2⟩ := Z9e _ t ty xs h hx
   exact ⟨y, by rw [Ty.av_agg hagg, h1], h2⟩
  | false =>
   have hns : ∀ fs a b c, T t ≠ some ⟨.struct fs, a, b, c⟩ := by
    intro fs a b c ht
    cases ty with
    | one u => cases hagg
    | pair u v => cases hagg
    | ptr _ => cases h
    | nilS => cases h
    | nilI => cases h
    | adr => cases h
    | mp t => cases h
    | mq t => cases h
    | fnc _ => cases h
    | clo _ _ => cases h
    | ref _ => cases h
    | int _ => simp [tyB, ht] at h
    | byte => simp [tyB, ht] at h
    | bool => simp [tyB, ht] at h
    | str => simp [tyB, ht] at h
    | slice _ => simp [tyB, ht] at h
   split at hs
   ·rename_i ht; exact absurd ht (hns _ _ _ _)
   ·obtain ⟨y, h1, h2⟩ := Z9e _ t ty _ h hs
    rw [Ty.cells_leaf hagg] at h1
    exact ⟨y, by simpa using h1, h2⟩
def tyAB (T : Tab) (m : Nat) : List Nat → List Ty → Bool
 | [], [] => true
 | t :: ts, u :: us => tyB T m t u && tyAB T m ts us
 | _, _ => false
def InA (T : Tab) (m : Nat) : List Nat → (us : List Ty) → denL us → Prop
 | [t], [u], x => InD T m t u x
 | t :: ts, u :: v :: us, x => InD T m t u x.1 ∧ InA T m ts (v :: us) x.2
 | _, _, _ => True
theorem Zg7 {T : Tab} {m : Nat} : ∀ (ts : List Nat) (us : List Ty) (xs : List AV), tyAB T m ts us = true → Z95 T m ts xs → ∃ x : denL us, xs = avL us x ∧ InA T m ts us x := by
 intro ts
 induction ts with
 | nil =>
  intro us xs h hs
  cases us with
  | nil => exact ⟨(), hs, trivial⟩
  | cons u us => cases h
 | cons t ts ih =>
  intro us xs h hs
  obtain ⟨x, r, rfl, h1, h2⟩ := hs
  cases us with
  | nil => cases h
  | cons u us =>
   simp only [tyAB, Bool.and_eq_true] at h
   obtain ⟨y, rfl, hy⟩ := Zg6 h.1 h1
   obtain ⟨z, hz, hz2⟩ := ih us r h.2 h2
   cases us with
   | nil =>
    cases ts with
    | nil => exact ⟨y, by rw [hz]; rfl, hy⟩
    | cons _ _ => cases h.2
   | cons v us =>
    refine ⟨(y, z), by rw [hz]; rfl, ?_⟩
    cases ts with
    | nil => cases h.2
    | cons _ _ => exact ⟨hy, hz2⟩
theorem Zh3 {P : Program} {T : Tab} {f m : Nat} {ts : List Nat} {us : List Ty} {run : denL us → Option Bool} (ok : FnOK P f ⟨us, [.bool], run⟩) (hty : tyAB T m ts us = true) (law : ∀ x, InA T m ts us x → run x = some true) (xs : List AV) (h : Z95 T m ts xs) : FPure P f xs (.v (.bool true)) := by
 obtain ⟨x, rfl, hx⟩ := Zg7 ts us xs hty h
 exact ok.2 x true (law x hx)
end Go.Proofs.YtnehieeplbgaiacDoor.Eng
set_option linter.unusedVariables false
set_option linter.unusedSimpArgs false
namespace Go.Proofs.YtnehieeplbgaiacDoor.Eng
open Go Go.RowKit
theorem FPure.of_callsR {P : Program} {f : Nat} {args : List Value} {r : Value} {R : AV} (hR : ∀ σ F w, RepV σ F w R r) (h : ∀ w : World, (∀ p ∈ LAID, ∃ e q, w.heap[p.1]? = some (.cells p.2 e q)) → Calls P f args.toArray w fun e w' => e = .returned r ∧ Below w.heap.size w w') : FPure P f (args.map AV.v) R := by
 intro σ F w vs hr hl hv
 have hvs : vs = args := by
  apply List.ext_getElem?
  intro j
  by_cases hj : j < args.length
  ·have hj2 : j < vs.length := by rw [← hl, List.length_map]; exact hj
   rw [List.getElem?_eq_getElem hj2, List.getElem?_eq_getElem hj]
   exact congrArg some (RepV.val (hv j (.v args[j]) vs[j] (by rw [List.getElem?_map, List.getElem?_eq_getElem hj]; rfl) (List.getElem?_eq_getElem hj2)))
  ·have hj2 : ¬ j < vs.length := by rw [← hl, List.length_map]; exact hj
   rw [List.getElem?_eq_none (by omega), List.getElem?_eq_none (by omega)]
 subst hvs
 have hno : ∀ id g, ¬ hasB σ id g := fun id g h => by
  obtain ⟨k, h, _⟩ := h
  rw [hr.out id (Nat.zero_le _)] at h; cases h
 refine (h w fun p hp => (hr.lay p hp).2).mono ?_
 rintro e w' ⟨rfl, hb⟩
 refine ⟨R, [], σ, F, r, ⟨rfl, rfl⟩, rfl, hR _ _ _, ⟨fun id o ho => by simp at ho, hr.out, hr.inj, fun id g h => absurd h (hno id g), fun b hb' => Nat.lt_of_lt_of_le (hr.flt b hb') hb.size, hr.lay.mono (fun _ h => h) (fun b hb' => hb.block b (hr.flt b hb'))⟩, ⟨hb.os, hb.tape, hb.output, hb.size, fun b hb' _ => hb.block b hb'⟩, fun id g h => absurd h (hno id g), fun b h => .inl h, fun id h => absurd h (Nat.not_lt_zero _), Nat.le_refl _⟩
theorem FPure.of_callsL {P : Program} {f : Nat} {args : List Value} {r : Value} (h : ∀ w : World, (∀ p ∈ LAID, ∃ e q, w.heap[p.1]? = some (.cells p.2 e q)) → Calls P f args.toArray w fun e w' => e = .returned r ∧ Below w.heap.size w w') : FPure P f (args.map AV.v) (.v r) :=
 FPure.of_callsR (fun _ _ _ => .f _ _ (.v _)) h
theorem FPure.of_calls {P : Program} {f : Nat} {args : List Value} {r : Value} (h : ∀ w : World, Calls P f args.toArray w fun e w' => e = .returned r ∧ Below w.heap.size w w') : FPure P f (args.map AV.v) (.v r) :=
 FPure.of_callsL fun w _ => h w
theorem FPure.of_callsS {P : Program} {f : Nat} {args : List Value} {r : Value} (h : ∀ w : World, Calls P f args.toArray w fun e w' => e = .returned r ∧ w' = w) : FPure P f (args.map AV.v) (.v r) :=
 FPure.of_calls fun w => (h w).mono fun e w' ⟨h1, h2⟩ => ⟨h1, h2 ▸ Below.refl _ _⟩
theorem FnOK.qq {P : Program} {C : Cx} (root : Code) {f : Nat} {func : Func} {fn : TFn} (hC : CxOK P C) (hf : P.funcs[f]? = some func) (L : List Nat → Option LE) (rs : List RV) (hL : LsOK P C root L) (hx : ∀ x, exF C L root [] (retK C fn.res rs) (Z5b fn.args x) = fn.run x) (hb : func.body = some root := by kernel_rfl) (hn : (func.name == "runtime.NumGoroutine") = false := by kernel_rfl) (hrs : func.results.toList = rs.map RV.var := by kernel_rfl) (hm : fn.args.length + (func.ntmps - fn.args.length) = C.n := by kernel_rfl) (hm0 : C.m = 0 := by rfl) : FnOK P f fn :=
 FnOK.of (L := L) (root := root) hC (enters_of hf hn hb) hf hb hrs hm hL hx hm0
end Go.Proofs.YtnehieeplbgaiacDoor.Eng
