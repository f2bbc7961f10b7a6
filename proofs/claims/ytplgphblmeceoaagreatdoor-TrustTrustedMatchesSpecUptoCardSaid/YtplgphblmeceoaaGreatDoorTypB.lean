/-
  Typed values over the abstract states, second part: an evaluator of code, which the kernel runs, and its soundness. No condition; nothing here is trusted.
-/
import Derived.Test.YtplgphblmeceoaaGreatDoorTypA
import Derived.Test.YtplgphblmeceoaaGreatDoorEngB
set_option linter.unusedVariables false
set_option linter.unusedSimpArgs false
namespace Go.Proofs.YtplgphblmeceoaaGreatDoor.Eng
open Go Go.RowKit
section
variable {P : Program} {C : Cx} {X : Ctx} {σ σ' : Nat → Option Blk} {F F' : Nat → Prop} {a : Act} {w w' : World} {s s' : TSt} {o : Oper}
theorem Z1o {f : AV → AV} {g : SV → SV} {id : Nat} {ob : TObj} {oa : AObj} (ok : SubOK f g s.heap (s.subAll g id ob).heap) (hob : ObjLe oa (ob.toObj (s.subAll g id ob).heap)) : StLe ⟨Z14 f s.toSt.env, (s.toSt.heap.map (AObj.sub f)).set id oa⟩ (s.subAll g id ob).toSt := by
 refine ⟨fun i => ?_, ?_, fun i o o' ho ho' => ?_⟩
 ·simp only [Zr, TSt.toSt, Zl, TSt.subAll]
  rw [Z3c (SV.sub g) rfl]
  exact Zdr ok _
 ·simp [TSt.toSt, TSt.subAll, setH_eq]
 ·simp only [TSt.toSt, TSt.subAll, setH_eq, List.getElem?_map] at ho ho'
  by_cases hi : i = id
  ·subst hi
   by_cases hlt : i < s.heap.length
   ·rw [List.getElem?_set_self (by simpa using hlt)] at ho
    rw [List.getElem?_set_self (by simpa using hlt), Option.map_some] at ho'
    cases ho; cases ho'
    simpa only [TSt.subAll, setH_eq] using hob
   ·rw [List.getElem?_eq_none (by simp; omega)] at ho; cases ho
  ·rw [List.getElem?_set_ne (by omega), List.getElem?_map, List.getElem?_map] at ho
   rw [List.getElem?_set_ne (by omega), List.getElem?_map] at ho'
   cases hq : s.heap[i]? with
   | none => rw [hq] at ho; cases ho
   | some q =>
    rw [hq, Option.map_some, Option.map_some] at ho
    rw [hq, Option.map_some, Option.map_some] at ho'
    cases ho; cases ho'
    cases q with
    | box e cs => exact ⟨rfl, by simpa only [TSt.subAll, setH_eq] using Z4s ok cs⟩
    | row e t xs => exact ObjLe.refl _
    | mapo t es => exact ObjLe.refl _
    | iter t es => exact ObjLe.refl _
    | tree e ei t pend es => exact ObjLe.refl _
    | dead => trivial
theorem StLe.trans {s1 s2 s3 : St} (h : StLe s1 s2) (k : StLe s2 s3) (heq : ∀ (i : Nat), s1.heap[i]? = s2.heap[i]?) (henv : ∀ i, envGet s1.env i = envGet s2.env i) : StLe s1 s3 :=
 ⟨fun i => by rw [henv]; exact k.1 i, h.2.1.trans k.2.1, fun i o o' h1 h2 => k.2.2 i o o' (by rw [← heq]; exact h1) h2⟩
theorem Zj9 {t : Nat} (h : isSeq C t = true) : (∃ e' m' p' z', C.T t = some ⟨.slice e', m', p', z'⟩) ∨ ∃ m' p' z', C.T t = some ⟨.str, m', p', z'⟩ := by
 unfold isSeq at h
 split at h
 ·rename_i ht; exact .inl ⟨_, _, _, _, ht⟩
 ·rename_i ht; exact .inr ⟨_, _, _, ht⟩
 ·cases h
theorem Zi9 (hT : Zo P C.T) (hm : X.m = C.m) (hd : dOK X.n o.dst) {t t' : Nat} {y z : Operand} (ho : o.op = .call { callee := .builtin .append, args := #[y, z], argTypes := #[t, t'] }) : Tell2 P X o s (Zdm C s t t' (s.ev y) (s.ev z)) := by
 unfold Zdm
 split
 ·rename_i e i u he hseq
  obtain ⟨⟨m, p, z', ht⟩, hi, hu, hb⟩ := Z5m he
  have hseq' := Zj9 hseq
  have hpos : 0 < i.size := by rw [← hu]; exact u.size_pos
  split
  ·rename_i news hnews
   obtain ⟨c, hz, hc⟩ := Zj3 hnews
   rw [← TSt.ev_ok] at hz
   split
   ·rename_i hy
    refine ⟨(Zx _).trans (PureSame.subAll _ _ _ _), fun hfit K hK => opWP.wf fun hw => ?_⟩
    have hlen : s.toSt.heap.length = s.heap.length := by simp [TSt.toSt]
    obtain ⟨h1, h2⟩ := Z9o hw (.row e u []) (fun e' cs h => by cases h)
    have hle : StLe (St.appended { s.toSt with heap := s.toSt.heap ++ [.row e i.size []] } s.toSt.heap.length (.row e i.size (news.map u.cells))) ((s.push (.row e u [])).subAll (Z16 s.heap.length) s.heap.length (.row e u news)).toSt := by
     have h3 := Z1o (s := s.push (.row e u [])) (f := Zh s.heap.length) (g := Z16 s.heap.length) (id := s.heap.length) (ob := .row e u news) (oa := .row e i.size (news.map u.cells)) Z26 ⟨rfl, hu.symm, rfl, fun j cs ds a b => by rw [a] at b; cases b; exact leL_refl _⟩
     refine ⟨fun j => ?_, ?_, fun j o1 o2 ho1 ho2 => ?_⟩
     ·have := h3.1 j
      simp only [Zr] at this
      simp only [St.appended, Zr, hlen]
      rw [← h2 j]
      exact this
     ·rw [← h3.2.1]; simp [St.appended, TSt.push, TSt.toSt]
     ·refine h3.2.2 j o1 o2 ?_ ho2
      simp only [St.appended, hlen] at ho1
      simp only [TSt.push]
      rw [h1]
      rw [← ho1, ← hu]
      rfl
    refine opT.of (fun K' hK' => Z9v ho hT ht hi hseq' (by rw [TSt.ev_ok, hy]; rfl) (by rw [← hu]; exact hz) hc hpos hb (by simpa using hfit) hd hK') hle ?_ hK
    simp only [SV.toAV]
    rw [Zb (e := e) (t := u) (xs := news) (by rw [Zf]; simp [TSt.push, TSt.subAll, setH_eq]), hlen, hu, List.length_map]
    exact .refl _
   ·rename_i id sz hy
    split
    ·rename_i e' u' xs0 hq
     split
     ·rename_i xs hxs
      split
      ·rename_i hcc
       obtain ⟨rfl, rfl, hmi⟩ := hcc
       obtain ⟨e1, h9⟩ := Ze hxs
       injection e1 with e1
       subst e1
       obtain rfl : xs0 = xs := h9
       refine ⟨PureSame.subAll _ _ _ _, fun hfit K hK => ?_⟩
       have hq' : s.toSt.heap[id]? = some (.row e' i.size (List.map u'.cells xs0)) := by rw [TSt.heap_get, hq, ← hu]; rfl
       have hle : StLe (St.appended s.toSt id (.row e' i.size ((List.map u'.cells xs0).drop 0 ++ news.map u'.cells))) (s.subAll (Z16 id) id (.row e' u' (catL xs0 news))).toSt :=
        Z1o (f := Zh id) (g := Z16 id) (id := id) (ob := .row e' u' (catL xs0 news)) (oa := .row e' i.size ((List.map u'.cells xs0).drop 0 ++ news.map u'.cells)) Z26 (by
         have e2 : (List.map u'.cells xs0).drop 0 ++ news.map u'.cells = (catL xs0 news).map u'.cells := by simp [catL]
         rw [e2, ← hu]; exact ObjLe.refl _)
       refine opT.of (fun K' hK' => Zbm ho hT ht hi hseq' (by rw [TSt.ev_ok, hy]; simp only [SV.toAV]; rw [Zb hq, hu]) hq' (by rw [Nat.zero_add, Z5d (u := u') xs0]) (by rw [← hu]; exact hz) hc hpos hb (by simpa using hfit) (by omega) hd hK') hle ?_ hK
       simp only [SV.toAV]
       have hid : id < s.heap.length := by rw [Zf] at hq; exact (List.getElem?_eq_some_iff.1 hq).1
       rw [Zb (e := e') (t := u') (xs := catL xs0 news) (by rw [Zf]; simp [TSt.subAll, setH_eq, hid]), hu]
       have e3 : (catL xs0 news).length = List.length xs0 + (news.map u'.cells).length := by simp [catL]
       rw [e3]
       exact .refl _
      ·trivial
     ·trivial
    ·trivial
   ·rename_i id sz off len hy
    split
    ·rename_i e' u' xs0 hq
     split
     ·rename_i xs hxs
      split
      ·rename_i hcc
       obtain ⟨rfl, rfl, hmi⟩ := hcc
       obtain ⟨e1, h9⟩ := Ze hxs
       injection e1 with e1
       subst e1
       obtain rfl : xs0 = xs := h9
       refine ⟨PureSame.subAll _ _ _ _, fun hfit K hK => ?_⟩
       have hq' : s.toSt.heap[id]? = some (.row e' i.size (List.map u'.cells xs0)) := by rw [TSt.heap_get, hq, ← hu]; rfl
       have hle : StLe (St.appended s.toSt id (.row e' i.size ((List.map u'.cells xs0).drop off ++ news.map u'.cells))) (s.subAll (Z16 id) id (.row e' u' (catL (List.drop off xs0) news))).toSt :=
        Z1o (f := Zh id) (g := Z16 id) (id := id) (ob := .row e' u' (catL (List.drop off xs0) news)) (oa := .row e' i.size ((List.map u'.cells xs0).drop off ++ news.map u'.cells)) Z26 (by
         have e2 : (List.map u'.cells xs0).drop off ++ news.map u'.cells = (catL (List.drop off xs0) news).map u'.cells := by simp only [catL, List.map_append]; congr 1; exact (List.map_drop ..).symm
         rw [e2, ← hu]; exact ObjLe.refl _)
       refine opT.of (fun K' hK' => Zbm ho hT ht hi hseq' (by rw [TSt.ev_ok, hy]; simp only [SV.toAV]; rw [hu]) hq' (by rw [Z5d (u := u') xs0]; exact hfit.1) (by rw [← hu]; exact hz) hc hpos hb (by simpa using hfit.2) (by omega) hd hK') hle ?_ hK
       simp only [SV.toAV]
       have hid : id < s.heap.length := by rw [Zf] at hq; exact (List.getElem?_eq_some_iff.1 hq).1
       rw [Zb (e := e') (t := u') (xs := catL (List.drop off xs0) news) (by rw [Zf]; simp [TSt.subAll, setH_eq, hid]), hu]
       have e3 : (catL (List.drop off xs0) news).length = len + (news.map u'.cells).length := by
        have e4 : (List.drop off xs0).length = List.length xs0 - off := List.length_drop ..
        simp only [catL, List.length_append, List.length_map]
        rw [e4]; omega
       rw [e3]
       exact .refl _
      ·trivial
     ·trivial
    ·trivial
   ·trivial
  ·trivial
 ·rename_i e i u he _
  obtain ⟨⟨m, p, z', ht⟩, hi, hu, hb⟩ := Z5m he
  split
  ·rename_i k q ht' hny hn
   split
   ·rename_i hz
    refine ⟨Zx _, fun hc K hK => opWP.wf fun hw => ?_⟩
    have hlen : s.toSt.heap.length = s.heap.length := by simp [TSt.toSt]
    have hzv : s.toSt.ev z = .v (.int k q) := by rw [TSt.ev_ok, Z1h hn]
    have hy : s.toSt.ev y = .v (.slice none 0 0) := by
     unfold isNilS at hny
     split at hny
     ·rename_i hx2; rw [TSt.ev_ok, hx2]; rfl
     ·cases hny
    refine (opTG.of (fun K' hK' => Z8q ho hT ht hi ht' hy hzv (by rw [← hu]; exact u.size_pos) hb hc.1 hc.2 hd hK') (Z5c hw (ob := .row e u (List.replicate q.toNat u.d)) (fun e' cs h => by cases h) ⟨rfl, hu.symm, by simp, fun j cs ds hj hj' => ?_⟩) ?_ hK).wp
    ·rw [List.getElem?_replicate] at hj
     rw [List.map_replicate, List.getElem?_replicate] at hj'
     split at hj
     ·rename_i hlt
      rw [if_pos hlt] at hj'
      cases hj; cases hj'
      exact zeroB_ok u _ hz
     ·cases hj
    ·simp only [SV.toAV]
     rw [Zb (e := e) (t := u) (xs := List.replicate q.toNat u.d) (by rw [Zf]; simp [TSt.push]), hlen, hu, List.length_replicate]
     exact .refl _
   ·trivial
  ·trivial
 ·trivial
end
end Go.Proofs.YtplgphblmeceoaaGreatDoor.Eng
set_option linter.unusedVariables false
set_option linter.unusedSimpArgs false
namespace Go.Proofs.YtplgphblmeceoaaGreatDoor.Eng
open Go Go.RowKit
section
variable {P : Program} {C : Cx} {X : Ctx} {o : Oper} {s s' : TSt}
theorem AV.le_sub {f : AV → AV} {x y : AV} (h : AV.le x y) : AV.le (x.sub f) (y.sub f) := by
 have lift : ∀ {cs ds : List AV}, (∀ (j : Nat) (x y : AV), cs[j]? = some x → ds[j]? = some y → AV.le (x.sub f) (y.sub f)) → ∀ (j : Nat) (x y : AV), (AV.subL f cs)[j]? = some x → (AV.subL f ds)[j]? = some y → AV.le x y := by
  intro cs ds h j x y hx hy
  rw [AV.subL_eq, List.getElem?_map, Option.map_eq_some_iff] at hx hy
  obtain ⟨x', hx', rfl⟩ := hx
  obtain ⟨y', hy', rfl⟩ := hy
  exact h j x' y' hx' hy'
 induction h with
 | refl x => exact .refl _
 | any x => exact .any _
 | nilro sz a c => exact .nilro sz a c
 | nilmp => exact .nilmp
 | rpLe cs ds hl h ih => exact .rpLe cs ds hl h
 | rpTake cs n => exact .rpTake cs n
 | fn g cs ds hl h ih => exact .fn g _ _ (by rw [AV.subL_eq, AV.subL_eq, List.length_map, List.length_map]; exact hl) (lift ih)
 | agg cs ds hl h ih => exact .agg _ _ (by rw [AV.subL_eq, AV.subL_eq, List.length_map, List.length_map]; exact hl) (lift ih)
 | tup cs ds hl h ih => exact .tup _ _ (by rw [AV.subL_eq, AV.subL_eq, List.length_map, List.length_map]; exact hl) (lift ih)
theorem Zgr {f : AV → AV} : ∀ {cs ds : List AV}, AV.leL cs ds → AV.leL (cs.map (AV.sub f)) (ds.map (AV.sub f))
 | [], [], _ => trivial
 | x :: cs, y :: ds, h => ⟨AV.le_sub h.1, Zgr h.2⟩
 | [], _ :: _, h => h.elim
 | _ :: _, [], h => h.elim
theorem ObjLe.sub {f : AV → AV} {o o' : AObj} (h : ObjLe o o') : ObjLe (o.sub f) (o'.sub f) := by
 cases o <;> cases o' <;> first | exact h.elim | exact h | exact ⟨h.1, Zgr h.2⟩
theorem StLe.sub {A B : St} (h : StLe A B) (f : AV → AV) (id : Nat) (oa : AObj) : StLe ⟨Z14 f A.env, (A.heap.map (AObj.sub f)).set id oa⟩ ⟨Z14 f B.env, (B.heap.map (AObj.sub f)).set id oa⟩ := by
 refine ⟨fun i => by rw [Zr, Zr]; exact AV.le_sub (h.1 i), by simp [h.2.1], fun i o o' ho ho' => ?_⟩
 by_cases hi : i = id
 ·subst hi
  by_cases hl : i < A.heap.length
  ·rw [List.getElem?_set_self (by simpa using hl)] at ho
   rw [List.getElem?_set_self (by simpa [← h.2.1] using hl)] at ho'
   cases ho; cases ho'; exact ObjLe.refl _
  ·rw [List.getElem?_eq_none (by simp; omega)] at ho; cases ho
 ·rw [List.getElem?_set_ne (by omega), List.getElem?_map, Option.map_eq_some_iff] at ho ho'
  obtain ⟨q, hq, rfl⟩ := ho
  obtain ⟨q', hq', rfl⟩ := ho'
  exact (h.2.2 i q q' hq hq').sub
theorem Zdk (hT : Zo P C.T) (hm : X.m = C.m) (hd : dOK X.n o.dst) {t id sz : Nat} {y : Operand} (ho : o.op = .convert t t y) (hy : s.ev y = .own id sz) : Tell2 P X o s (Z89 C s t id sz) := by
 unfold Z89
 split
 ·rename_i e m p z e0 u xs0 ht hq
  split
  ·rename_i m' p' z' xs he hxs
   split
   ·rename_i hsz
    subst hsz
    obtain ⟨e1, h9⟩ := Ze hxs
    injection e1 with e1
    subst e1
    obtain rfl : xs0 = xs := h9
    refine ⟨PureSame.subAll _ _ _ _, fun hpos K hK => ?_⟩
    have hq' : s.toSt.heap[id]? = some (.row e0 1 (List.map Ty.byte.cells xs0)) := by rw [TSt.heap_get, hq]; rfl
    have hl : (List.map Ty.byte.cells xs0).length = List.length xs0 := Z5d (u := .byte) xs0
    refine opT.of (fun K' hK' => Zda hT ho ht he (by rw [TSt.ev_ok, hy]; simp only [SV.toAV]; rw [Zb hq, hl]) hq' (by rw [hl]; exact hpos) hd hK') (Z1o (ob := .dead) (oa := .dead) Z26 (ObjLe.refl .dead)) (.refl _) hK
   ·trivial
  ·trivial
 ·trivial
end
end Go.Proofs.YtplgphblmeceoaaGreatDoor.Eng
set_option linter.unusedVariables false
set_option linter.unusedSimpArgs false
namespace Go.Proofs.YtplgphblmeceoaaGreatDoor.Eng
open Go Go.RowKit
inductive Rel3 : List Ty → List SV → List SV → Prop
 | nil : Rel3 [] [] []
 | cons {t : Ty} {u : SV} {y : t.den} {ts : List Ty} {us vs : List SV} (h : asT [] t u = some y) (r : Rel3 ts us vs) : Rel3 (t :: ts) (u :: us) (.val t y :: vs)
theorem rel3_of : ∀ (ts : List Ty) (us : List SV) (x : denL ts), asTL [] ts us = some x → Rel3 ts us (svL ts x) := by
 intro ts
 induction ts with
 | nil =>
  intro us x h
  cases us with
  | nil => exact .nil
  | cons u us => cases h
 | cons t r ih =>
  intro us x h
  cases us with
  | nil => cases h
  | cons u us =>
   simp only [asTL] at h
   cases hp : asT [] t u with
   | none => rw [hp] at h; cases h
   | some p =>
    rw [hp] at h
    simp only at h
    cases hq : asTL [] r us with
    | none => rw [hq] at h; cases r <;> cases h
    | some q =>
     rw [hq] at h
     have h2 := ih us q hq
     cases r with
     | nil => cases h; exact .cons hp h2
     | cons u' r => cases h; exact .cons hp h2
theorem Rel3.split {ts ts' : List Ty} : ∀ {us vs : List SV}, Rel3 (ts ++ ts') us vs → ∃ u1 u2 v1 v2, us = u1 ++ u2 ∧ vs = v1 ++ v2 ∧ Rel3 ts u1 v1 ∧ Rel3 ts' u2 v2 := by
 induction ts with
 | nil => exact fun {us vs} h => ⟨[], us, [], vs, rfl, rfl, .nil, h⟩
 | cons t ts ih =>
  intro us vs h
  cases h with
  | cons hu hr =>
   obtain ⟨u1, u2, v1, v2, rfl, rfl, h1, h2⟩ := ih hr
   exact ⟨_ :: u1, u2, _ :: v1, v2, rfl, rfl, .cons hu h1, h2⟩
theorem Rel3.len {ts : List Ty} {us vs : List SV} (h : Rel3 ts us vs) : us.length = ts.length ∧ vs.length = ts.length := by
 induction h with
 | nil => exact ⟨rfl, rfl⟩
 | cons _ _ ih => exact ⟨by simp [ih.1], by simp [ih.2]⟩
section
variable {X : Ctx} {H H' : List TObj} {f : AV → AV} {n : Nat}
theorem Rel3.le {ts : List Ty} {us vs : List SV} (h : Rel3 ts us vs) : AV.leL ((SV.toAVL H us).map (AV.sub f)) (SV.toAVL H' vs) := by
 induction h with
 | nil => trivial
 | cons hu _ ih => exact ⟨Z6t (Lends.none f H) hu, ih⟩
theorem Zaj (t : Ty) : asT [] t .any = none := by
 unfold asT
 cases t <;> rfl
theorem tget_app : ∀ (a b : List (Nat × SV)) (i : Nat), tget (a ++ b) i = if i ∈ a.map (·.1) then tget a i else tget b i
 | [], b, i => by simp [tget]
 | (j, x) :: r, b, i => by
  simp only [List.cons_append, tget, List.map_cons, List.mem_cons]
  by_cases h : i = j
  ·simp [h]
  ·simp only [h, if_false, false_or]
   exact tget_app r b i
theorem tget_not : ∀ (a : List (Nat × SV)) (i : Nat), i ∉ a.map (·.1) → tget a i = .any
 | [], i, _ => rfl
 | (j, x) :: r, i, h => by
  simp only [List.map_cons, List.mem_cons, not_or] at h
  simp only [tget]
  rw [if_neg h.1]
  exact tget_not r i h.2
def LeS (H H' : List TObj) (n : Nat) (u v : SV) : Prop := AV.le ((u.toAV H).sub (Z19 n)) (v.toAV H')
theorem cells_rel : ∀ (ks : List CK) (cs us : List SV) (ts : List Ty) (vs : List SV), Rel3 (ckTys ks ++ ts) (colCells ks cs ++ us) vs → Zw n ks cs = true → Rel3 ts us (encCells ks vs).2
 | [], cs, us, ts, vs, h, hc => h
 | .val t :: r, cs, us, ts, vs, h, hc => by
  cases cs with
  | nil => cases hc
  | cons c cs =>
   cases h with
   | cons hu hr => exact cells_rel r cs us ts _ hr hc
 | .own k sz :: r, cs, us, ts, vs, h, hc => by
  simp only [Zw] at hc
  split at hc
  ·rw [Bool.and_eq_true] at hc
   exact cells_rel r _ us ts _ h hc.2
  ·cases hc
 | .ptr k sz :: r, cs, us, ts, vs, h, hc => by
  simp only [Zw] at hc
  split at hc
  ·rw [Bool.and_eq_true] at hc
   exact cells_rel r _ us ts _ h hc.2
  ·cases hc
 | .nm k sz :: r, cs, us, ts, vs, h, hc => by
  simp only [Zw] at hc
  split at hc
  ·rw [Bool.and_eq_true] at hc
   exact cells_rel r _ us ts _ h hc.2
  ·cases hc
 | .nil :: r, cs, us, ts, vs, h, hc => by
  simp only [Zw] at hc
  split at hc
  ·exact cells_rel r _ us ts _ h hc
  ·cases hc
theorem Z2t (hrow : ∀ k, k < n → rowLen H k = rowLen H' k) : ∀ (ks : List CK) (cs us : List SV) (ts : List Ty) (vs : List SV), Rel3 (ckTys ks ++ ts) (colCells ks cs ++ us) vs → Zw n ks cs = true → AV.leL ((SV.toAVL H cs).map (AV.sub (Z19 n))) (SV.toAVL H' (encCells ks vs).1)
 | [], cs, us, ts, vs, h, hc => by
  cases cs with
  | nil => trivial
  | cons c cs => cases hc
 | .val t :: r, cs, us, ts, vs, h, hc => by
  cases cs with
  | nil => cases hc
  | cons c cs =>
   cases h with
   | cons hu hr => exact ⟨Z6t (Lends.none (Z19 n) H) hu, Z2t hrow r cs us ts _ hr hc⟩
 | .own k sz :: r, cs, us, ts, vs, h, hc => by
  simp only [Zw] at hc
  split at hc
  ·simp only [Bool.and_eq_true, decide_eq_true_eq] at hc
   obtain ⟨⟨⟨rfl, rfl⟩, hk⟩, hc⟩ := hc
   refine ⟨?_, Z2t hrow r _ us ts _ h hc⟩
   simp only [SV.toAV, AV.sub, Z19, if_pos hk]
   rw [hrow _ hk]; exact .refl _
  ·cases hc
 | .ptr k sz :: r, cs, us, ts, vs, h, hc => by
  simp only [Zw] at hc
  split at hc
  ·simp only [Bool.and_eq_true, decide_eq_true_eq] at hc
   obtain ⟨⟨⟨rfl, rfl⟩, hk⟩, hc⟩ := hc
   refine ⟨?_, Z2t hrow r _ us ts _ h hc⟩
   simp only [SV.toAV, AV.sub, Z19, if_pos hk]
   exact .refl _
  ·cases hc
 | .nm k sz :: r, cs, us, ts, vs, h, hc => by
  simp only [Zw] at hc
  split at hc
  ·simp only [Bool.and_eq_true, decide_eq_true_eq] at hc
   obtain ⟨⟨⟨rfl, rfl⟩, hk⟩, hc⟩ := hc
   refine ⟨?_, Z2t hrow r _ us ts _ h hc⟩
   simp only [SV.toAV, AV.sub, Z19, if_pos hk]
   exact .refl _
  ·cases hc
 | .nil :: r, cs, us, ts, vs, h, hc => by
  simp only [Zw] at hc
  split at hc
  ·exact ⟨.refl _, Z2t hrow r _ us ts _ h hc⟩
  ·cases hc
theorem Z87 {env : List (Nat × SV)} (hrow : ∀ k, k < n → rowLen H k = rowLen H' k) : ∀ (slots : List (Nat × SK)) (us : List SV) (ts : List Ty) (vs : List SV), Rel3 (slotTys slots ++ ts) (Zc env slots ++ us) vs → Zd env n slots = true →
  Rel3 ts us (encSlots slots vs).2 ∧ (encSlots slots vs).1.map (·.1) = slots.map (·.1) ∧ ∀ i ∈ slots.map (·.1), LeS H H' n (tget env i) (tget (encSlots slots vs).1 i) := by
 intro slots
 induction slots with
 | nil => exact fun us ts vs h _ => ⟨h, rfl, fun i hi => by cases hi⟩
 | cons p r ih =>
  obtain ⟨i, sk⟩ := p
  intro us ts vs h hc
  have fin : ∀ {a : List (Nat × SV)} {b : List SV} {v : SV}, encSlots r b = (a, (encSlots r b).2) → LeS H H' n (tget env i) v → (∀ j ∈ r.map (·.1), LeS H H' n (tget env j) (tget a j)) → ∀ j ∈ ((i, sk) :: r).map (·.1), LeS H H' n (tget env j) (tget ((i, v) :: a) j) := by
   intro a b v _ hv hr j hj
   simp only [tget]
   by_cases hji : j = i
   ·rw [if_pos hji, hji]; exact hv
   ·rw [if_neg hji]
    refine hr j ?_
    simp only [List.map_cons, List.mem_cons] at hj
    exact hj.resolve_left hji
  cases sk with
  | val t =>
   simp only [slotTys, Zc, List.cons_append] at h
   cases h with
   | cons hu hr =>
    obtain ⟨h1, h2, h3⟩ := ih us ts _ hr hc
    refine ⟨h1, by simp only [encSlots, List.map_cons, h2], fin rfl ?_ h3⟩
    exact Z6t (Lends.none (Z19 n) H) hu
  | rp t =>
   simp only [slotTys, Zc, List.cons_append] at h
   cases h with
   | @cons _ _ y _ _ _ hu hr =>
    obtain ⟨h1, h2, h3⟩ := ih us ts _ hr hc
    refine ⟨h1, by simp only [encSlots, List.map_cons, h2], fin rfl ?_ h3⟩
    have key : tget env i = .rp t y := by
     revert hu
     cases tget env i with
     | rp u z =>
      intro hu
      obtain ⟨e, h9⟩ := Ze (show Zn t u z = some y from hu)
      subst e
      subst h9
      rfl
     | _ => intro hu; rw [show unRp _ = SV.any from rfl, Zaj] at hu; cases hu
    rw [key]
    exact .refl _
  | own k sz =>
   simp only [slotTys, Zc] at h
   simp only [Zd] at hc
   split at hc
   ·rename_i k' sz' hg
    simp only [Bool.and_eq_true, decide_eq_true_eq] at hc
    obtain ⟨⟨⟨rfl, rfl⟩, hk⟩, hc⟩ := hc
    obtain ⟨h1, h2, h3⟩ := ih us ts _ h hc
    refine ⟨h1, by simp only [encSlots, List.map_cons, h2], fin rfl ?_ h3⟩
    rw [hg]
    unfold LeS
    simp only [SV.toAV, AV.sub, Z19, if_pos hk]
    rw [hrow _ hk]; exact .refl _
   ·cases hc
  | que k sz =>
   simp only [slotTys, Zc] at h
   simp only [Zd] at hc
   split at hc
   ·rename_i k' sz' hg
    simp only [Bool.and_eq_true, decide_eq_true_eq] at hc
    obtain ⟨⟨⟨rfl, rfl⟩, hk⟩, hc⟩ := hc
    obtain ⟨h1, h2, h3⟩ := ih us ts _ h hc
    refine ⟨h1, by simp only [encSlots, List.map_cons, h2], fin rfl ?_ h3⟩
    rw [hg]
    unfold LeS
    simp only [SV.toAV, AV.sub, Z19, if_pos hk]
    rw [hrow _ hk]; exact .refl _
   ·cases hc
  | ptr k sz =>
   simp only [slotTys, Zc] at h
   simp only [Zd] at hc
   split at hc
   ·rename_i k' sz' hg
    simp only [Bool.and_eq_true, decide_eq_true_eq] at hc
    obtain ⟨⟨⟨rfl, rfl⟩, hk⟩, hc⟩ := hc
    obtain ⟨h1, h2, h3⟩ := ih us ts _ h hc
    refine ⟨h1, by simp only [encSlots, List.map_cons, h2], fin rfl ?_ h3⟩
    rw [hg]
    unfold LeS
    simp only [SV.toAV, AV.sub, Z19, if_pos hk]
    exact .refl _
   ·cases hc
  | nm k sz =>
   simp only [slotTys, Zc] at h
   simp only [Zd] at hc
   split at hc
   ·rename_i k' sz' hg
    simp only [Bool.and_eq_true, decide_eq_true_eq] at hc
    obtain ⟨⟨⟨rfl, rfl⟩, hk⟩, hc⟩ := hc
    obtain ⟨h1, h2, h3⟩ := ih us ts _ h hc
    refine ⟨h1, by simp only [encSlots, List.map_cons, h2], fin rfl ?_ h3⟩
    rw [hg]
    unfold LeS
    simp only [SV.toAV, AV.sub, Z19, if_pos hk]
    exact .refl _
   ·cases hc
  | fn g =>
   simp only [slotTys, Zc] at h
   simp only [Zd] at hc
   split at hc
   ·rename_i g' hg
    simp only [Bool.and_eq_true, decide_eq_true_eq] at hc
    obtain ⟨rfl, hc⟩ := hc
    obtain ⟨h1, h2, h3⟩ := ih us ts _ h hc
    refine ⟨h1, by simp only [encSlots, List.map_cons, h2], fin rfl ?_ h3⟩
    rw [hg]
    exact .refl _
   ·cases hc
  | nil =>
   simp only [slotTys, Zc] at h
   simp only [Zd] at hc
   split at hc
   ·rename_i hg
    obtain ⟨h1, h2, h3⟩ := ih us ts _ h hc
    refine ⟨h1, by simp only [encSlots, List.map_cons, h2], fin rfl ?_ h3⟩
    rw [hg]
    exact .refl _
   ·cases hc
  | inn k =>
   simp only [slotTys, Zc, List.cons_append] at h
   simp only [Zd] at hc
   split at hc
   ·rename_i id' q hg
    simp only [Bool.and_eq_true, decide_eq_true_eq] at hc
    obtain ⟨⟨rfl, hk⟩, hc⟩ := hc
    rw [hg] at h
    cases h with
    | @cons _ _ y _ _ _ hu hr =>
     obtain ⟨h1, h2, h3⟩ := ih us ts _ hr hc
     have hy : y = (q : Int) := by
      obtain ⟨e1, h9⟩ := Ze (show Zn (.int .i64) (.int .i64) (q : Int) = some y from hu)
      exact h9.symm
     subst hy
     refine ⟨h1, by simp only [encSlots, List.map_cons, h2], fin rfl ?_ h3⟩
     rw [hg]
     show LeS H H' n (.nm id' [1, q]) (.nm id' [1, Int.toNat (q : Int)])
     rw [Int.toNat_natCast]
     unfold LeS
     simp only [SV.toAV, AV.sub, Z19, if_pos hk]
     exact .refl _
   ·cases hc
  | agg ks =>
   simp only [slotTys, Zc] at h
   simp only [Zd] at hc
   split at hc
   ·rename_i xs hg
    rw [Bool.and_eq_true] at hc
    rw [hg] at h
    simp only [List.append_assoc] at h
    have hr := cells_rel ks xs _ _ _ h hc.1
    obtain ⟨h1, h2, h3⟩ := ih us ts _ hr hc.2
    refine ⟨h1, by simp only [encSlots, List.map_cons, h2], fin rfl ?_ h3⟩
    rw [hg]
    have hle := Z2t hrow ks xs _ _ _ h hc.1
    unfold LeS
    simp only [SV.toAV, AV.sub]
    rw [AV.subL_eq]
    exact AV.leAgg hle
   ·cases hc
  | clo g ks =>
   simp only [slotTys, Zc] at h
   simp only [Zd] at hc
   split at hc
   ·rename_i g' c0 xs0 hg
    simp only [Bool.and_eq_true, decide_eq_true_eq] at hc
    obtain ⟨⟨rfl, hc1⟩, hc2⟩ := hc
    rw [hg] at h
    simp only [List.append_assoc] at h
    have hr := cells_rel ks (c0 :: xs0) _ _ _ h hc1
    obtain ⟨h1, h2, h3⟩ := ih us ts _ hr hc2
    refine ⟨h1, by simp only [encSlots, List.map_cons, h2], fin rfl ?_ h3⟩
    rw [hg]
    have hle := Z2t hrow ks (c0 :: xs0) _ _ _ h hc1
    unfold LeS
    simp only [SV.toAV, AV.sub]
    rw [AV.subL_eq]
    exact AV.leFn hle
   ·cases hc
theorem Zfb {n : Nat} : ∀ (objs : List OB) (h : List TObj) (vs : List SV), Rel3 (objTys objs) (colObjs h objs) vs → Z1b n h objs = true → (encObjs objs vs).length = objs.length ∧ objs.length ≤ h.length ∧
  ∀ (j : Nat) (o : TObj), h[j]? = some o → j < objs.length → ∃ o', (encObjs objs vs)[j]? = some o' ∧ (∀ (H H' : List TObj), (∀ k, k < n → rowLen H k = rowLen H' k) → ObjLe ((o.toObj H).sub (Z19 n)) (o'.toObj H')) ∧ (match o with | .row _ _ xs => xs.length | _ => 0) = (match o' with | .row _ _ xs => xs.length | _ => 0) := by
 intro objs
 induction objs with
 | nil => exact fun h vs _ _ => ⟨rfl, Nat.zero_le _, fun j o _ hj => absurd hj (Nat.not_lt_zero _)⟩
 | cons ob r ih =>
  intro h vs hr hc
  cases h with
  | nil => simp [Z1b] at hc
  | cons o h =>
   have fin : ∀ {o' : TObj} {vs' : List SV}, Rel3 (objTys r) (colObjs h r) vs' → Z1b n h r = true → encObjs (ob :: r) vs = o' :: encObjs r vs' → (∀ (H H' : List TObj), (∀ k, k < n → rowLen H k = rowLen H' k) → ObjLe ((o.toObj H).sub (Z19 n)) (o'.toObj H')) → (match o with | .row _ _ xs => xs.length | _ => 0) = (match o' with | .row _ _ xs => xs.length | _ => 0) →
     (encObjs (ob :: r) vs).length = (ob :: r).length ∧ (ob :: r).length ≤ (o :: h).length ∧ ∀ (j : Nat) (q : TObj), (o :: h)[j]? = some q → j < (ob :: r).length → ∃ o', (encObjs (ob :: r) vs)[j]? = some o' ∧ (∀ (H H' : List TObj), (∀ k, k < n → rowLen H k = rowLen H' k) → ObjLe ((q.toObj H).sub (Z19 n)) (o'.toObj H')) ∧ (match q with | .row _ _ xs => xs.length | _ => 0) = (match o' with | .row _ _ xs => xs.length | _ => 0) := by
    intro o' vs' h1 h2 he h3 h4
    obtain ⟨h5, h6, h7⟩ := ih h vs' h1 h2
    rw [he]
    refine ⟨by simp [h5], by simp; exact h6, fun j q hq hj => ?_⟩
    cases j with
    | zero => simp at hq; subst hq; exact ⟨o', rfl, h3, h4⟩
    | succ j => exact h7 j q (by simpa using hq) (by simpa using hj)
   cases ob with
   | row e t =>
    simp only [objTys, colObjs] at hr
    simp only [Z1b, Bool.and_eq_true] at hc
    cases o with
    | row e' t' xs =>
     simp only [decide_eq_true_eq] at hc
     obtain ⟨rfl, hc⟩ := hc
     cases hr with
     | @cons _ _ y _ _ _ hu hr =>
      obtain ⟨e, h9⟩ := Ze (show Zn (.slice t) (.slice t') xs = some y from hu)
      injection e with e
      subst e
      obtain rfl : xs = y := h9
      exact fin hr hc rfl (fun H H' _ => ObjLe.refl _) rfl
    | box e' cs => simp at hc
    | dead => simp at hc
    | mapo t es => simp at hc
    | iter t es => simp at hc
    | tree e ei t pend es => simp at hc
   | box e ks =>
    simp only [objTys, colObjs] at hr
    simp only [Z1b, Bool.and_eq_true] at hc
    cases o with
    | box e' cs =>
     simp only [Bool.and_eq_true, decide_eq_true_eq] at hc
     obtain ⟨⟨rfl, hl⟩, hc⟩ := hc
     exact fin (o' := .box e' (encCells ks vs).1) (vs' := (encCells ks vs).2) (cells_rel ks cs _ _ _ hr hl) hc rfl (fun H H' hrow => ⟨rfl, Z2t hrow ks cs _ _ _ hr hl⟩) rfl
    | row e' t' xs => simp at hc
    | dead => simp at hc
    | mapo t es => simp at hc
    | iter t es => simp at hc
    | tree e ei t pend es => simp at hc
   | dead =>
    simp only [objTys, colObjs] at hr
    simp only [Z1b, Bool.and_eq_true] at hc
    cases o with
    | dead => exact fin hr hc.2 rfl (fun H H' _ => trivial) rfl
    | row e' t' xs => simp at hc
    | box e' cs => simp at hc
    | mapo t es => simp at hc
    | iter t es => simp at hc
    | tree e ei t pend es => simp at hc
   | mapo t =>
    simp only [objTys, colObjs] at hr
    simp only [Z1b, Bool.and_eq_true] at hc
    cases o with
    | mapo t' xs =>
     cases hr with
     | @cons _ _ y _ _ _ hu hr =>
      obtain ⟨e, h9⟩ := Ze (show Zn (.slice (.pair .str t)) (.slice (.pair .str t')) xs = some y from hu)
      injection e with e
      injection e with e0 e
      subst e
      obtain rfl : xs = y := h9
      exact fin hr hc.2 rfl (fun H H' _ => ObjLe.refl _) rfl
    | iter t es => simp at hc
    | row e' t' xs => simp at hc
    | box e' cs => simp at hc
    | dead => simp at hc
    | tree e ei t pend es => simp at hc
   | tree e ei t =>
    simp only [objTys, colObjs] at hr
    simp only [Z1b, Bool.and_eq_true] at hc
    cases o with
    | tree e' ei' t' pend xs =>
     cases pend with
     | some k => simp at hc
     | none =>
      simp only [Bool.and_eq_true, decide_eq_true_eq] at hc
      obtain ⟨⟨rfl, rfl⟩, hc⟩ := hc
      cases hr with
      | @cons _ _ y _ _ _ hu hr =>
       obtain ⟨e, h9⟩ := Ze (show Zn (.slice (.slice t)) (.slice (.slice t')) xs = some y from hu)
       injection e with e
       injection e with e
       subst e
       obtain rfl : xs = y := h9
       exact fin hr hc rfl (fun H H' _ => ObjLe.refl _) rfl
    | row e' t' xs => simp at hc
    | box e' cs => simp at hc
    | dead => simp at hc
    | mapo t es => simp at hc
    | iter t es => simp at hc
def FrOK (fr : List (Nat × SV)) (s : TSt) : Prop := ∀ (H H' : List TObj) (n i : Nat), LeS H H' n (tget s.env i) (tget fr i)
theorem Z6i (h : List TObj) (k : Nat) : rowLen h k = match h[k]? with | some o => (match o with | .row _ _ xs => xs.length | _ => 0) | none => 0 := by
 unfold rowLen
 rw [Zf]
 cases h[k]? with
 | none => rfl
 | some o => cases o <;> rfl
theorem Z3o {sh : Shape} {s : TSt} {x : denL sh.tys} {fr : List (Nat × SV)} (hm : X.m ≤ sh.objs.length) (hc : (Zd s.env sh.objs.length sh.slots && Z1b sh.objs.length s.heap sh.objs) = true)
  (hx : asTL [] sh.tys (Zc s.env sh.slots ++ colObjs s.heap sh.objs) = some x) (hfr : FrOK fr s) : Imp X s.toSt (encS sh x fr).toSt := by
 rw [Bool.and_eq_true] at hc
 have hrel := rel3_of _ _ _ hx
 have h0 : ∃ v1 v2, encSlots sh.slots (svL sh.tys x) = (v1, v2) := ⟨_, _, rfl⟩
 obtain ⟨v1, v2, hv⟩ := h0
 have hE : encS sh x fr = ⟨v1 ++ fr, encObjs sh.objs v2⟩ := by simp only [encS, hv]
 have hro : Rel3 (objTys sh.objs) (colObjs s.heap sh.objs) v2 := by
  have := (Z87 (H := s.heap) (H' := s.heap) (n := sh.objs.length) (fun k _ => rfl) sh.slots _ _ _ hrel hc.1).1
  rw [hv] at this
  exact this
 obtain ⟨h1, h2, h3⟩ := Zfb sh.objs s.heap v2 hro hc.2
 have hrow : ∀ k, k < sh.objs.length → rowLen s.heap k = rowLen (encObjs sh.objs v2) k := fun k hk => by
  have hk' : k < s.heap.length := Nat.lt_of_lt_of_le hk h2
  obtain ⟨o', h4, _, h6⟩ := h3 k _ (List.getElem?_eq_getElem hk') hk
  rw [Z6i, Z6i, List.getElem?_eq_getElem hk', h4]
  exact h6
 obtain ⟨_, h5, h6⟩ := Z87 (env := s.env) hrow sh.slots _ _ _ hrel hc.1
 rw [hv] at h5 h6
 simp only at h5 h6
 intro a w hr
 have htr := Rep.trim (n := sh.objs.length) hm (by simpa [TSt.toSt] using h2) hr
 rw [hE]
 refine htr.weak ⟨fun i => ?_, by simp [St.trim, TSt.toSt, h1]; exact Nat.min_eq_left h2, fun j o o' ho ho' => ?_⟩
 ·simp only [St.trim, TSt.toSt, Zr, Zl]
  rw [tget_app, h5]
  by_cases hi : i ∈ sh.slots.map (·.1)
  ·rw [if_pos hi]
   exact h6 i hi
  ·rw [if_neg hi]
   exact hfr _ _ _ i
 ·simp only [St.trim, TSt.toSt, List.getElem?_map, List.getElem?_take] at ho
  obtain ⟨q, hq, rfl⟩ := Option.map_eq_some_iff.1 ho
  split at hq
  ·rename_i hj
   obtain ⟨q', hq', rfl⟩ := Option.map_eq_some_iff.1 hq
   obtain ⟨o2, h7, h8, _⟩ := h3 j q' hq' hj
   simp only [TSt.toSt, List.getElem?_map] at ho'
   rw [h7, Option.map_some] at ho'
   cases ho'
   exact h8 _ _ hrow
  ·cases hq
end
end Go.Proofs.YtplgphblmeceoaaGreatDoor.Eng
set_option linter.unusedVariables false
set_option linter.unusedSimpArgs false
namespace Go.Proofs.YtplgphblmeceoaaGreatDoor.Eng
open Go Go.RowKit
section
variable {σ σ' : Nat → Option Blk} {F F' : Nat → Prop} {w w' : World} {H H' : List TObj}
theorem HRep.weak {h h' : List AObj} (hr : HRep σ F w h) (hl : h.length = h'.length) (hle : ∀ (i : Nat) (o o' : AObj), h[i]? = some o → h'[i]? = some o' → ObjLe o o') : HRep σ F w h' :=
 ⟨fun id o' ho => by
  have hj : id < h.length := by rw [hl]; exact (List.getElem?_eq_some_iff.1 ho).1
  exact (hr.obj id _ (List.getElem?_eq_getElem hj)).weak (hle id _ o' (List.getElem?_eq_getElem hj) ho), fun id hid => hr.out id (by rw [hl]; exact hid), hr.inj, hr.lt, hr.flt, hr.lay⟩
end
end Go.Proofs.YtplgphblmeceoaaGreatDoor.Eng
set_option linter.unusedVariables false
set_option linter.unusedSimpArgs false
namespace Go.Proofs.YtplgphblmeceoaaGreatDoor.Eng
open Go Go.RowKit
mutual
theorem toAV_lt {h h' : List TObj} {n : Nat} (hr : ∀ id, id < n → rowLen h id = rowLen h' id) : ∀ x : SV, x.idsLt n → x.toAV h = x.toAV h'
 | .own id sz, hb => by simp only [SV.toAV]; rw [hr id hb]
 | .cut _ _ _ _, _ => rfl
 | .ptr _ _ _ _, _ => rfl
 | .nm _ _, _ => rfl
 | .agg cs, hb => by simp only [SV.toAV]; rw [Z6z hr cs hb]
 | .tup cs, hb => by simp only [SV.toAV]; rw [Z6z hr cs hb]
 | .fn _ cs, hb => by simp only [SV.toAV]; rw [Z6z hr cs hb]
 | .any, _ | .cst _, _ | .val _ _, _ | .rp _ _, _ => rfl
theorem Z6z {h h' : List TObj} {n : Nat} (hr : ∀ id, id < n → rowLen h id = rowLen h' id) : ∀ l : List SV, SV.idsLtL n l → SV.toAVL h l = SV.toAVL h' l
 | [], _ => rfl
 | x :: r, hb => by simp only [SV.toAVL]; rw [toAV_lt hr x hb.1, Z6z hr r hb.2]
end
theorem memN_notin : ∀ {l : List Nat} {x : Nat}, memN l x = false → x ∉ l
 | [], x, _ => by simp
 | y :: r, x, h => by
  unfold memN at h
  split at h
  ·cases h
  ·rename_i e
   simp only [List.mem_cons, not_or]
   exact ⟨fun h' => e h'.symm, memN_notin h⟩
theorem noDup_ok : ∀ {l : List Nat}, noDup l = true → l.Nodup
 | [], _ => List.nodup_nil
 | x :: r, h => by
  simp only [noDup, Bool.and_eq_true, Bool.not_eq_true'] at h
  exact List.nodup_cons.2 ⟨memN_notin h.1, noDup_ok h.2⟩
theorem idx_of : ∀ {l : List Nat} {k i : Nat}, l.Nodup → l[k]? = some i → idx l i = some k
 | [], _, _, _, h => by simp at h
 | a :: r, 0, i, _, h => by simp at h; subst h; simp [idx]
 | a :: r, k + 1, i, hn, h => by
  rw [List.nodup_cons] at hn
  have h1 : r[k]? = some i := by simpa using h
  have hne : i ≠ a := fun e => hn.1 (e ▸ List.mem_of_getElem? h1)
  simp [idx, hne, idx_of hn.2 h1]
section
variable {keep : List Nat} {n : Nat} {h hO : List TObj}
variable {s : TSt}
end
end Go.Proofs.YtplgphblmeceoaaGreatDoor.Eng
set_option linter.unusedVariables false
set_option linter.unusedSimpArgs false
namespace Go.Proofs.YtplgphblmeceoaaGreatDoor.Eng
open Go Go.RowKit
def FnOK (P : Program) (f : Nat) (fn : TFn) : Prop := Enters P f ∧ ∀ x r, fn.run x = some r → FPure P f (avL fn.args x) (retAV (avL fn.res r))
def Z7q (n : Nat) : (t : Ty) → Option Nat → t.den → AV
 | .slice t, some _, xs => .own n t.size 0 (List.length xs)
 | t, _, x => t.av x
def avLO (n : Nat) : (ts : List Ty) → List (Option Nat) → denL ts → List AV
 | [], _, _ => []
 | [t], os, x => [Z7q n t (ownHd os) x]
 | t :: u :: r, os, x => Z7q n t (ownHd os) x.1 :: avLO (n + (ownObj t (ownHd os) x.1).length) (u :: r) os.tail x.2
def FnOKo (P : Program) (f : Nat) (fn : TFo) : Prop := Enters P f ∧ ∀ x r, fn.run x = some r → FSpec P f [] (avL fn.args x) (fun ret h => ret = retAV (avLO 0 fn.res fn.own r) ∧ h = (ownObjs fn.res fn.own r).map (TObj.toObj []))
def FnOKw (P : Program) (f : Nat) (fn : TFw) : Prop := Enters P f ∧ fn.ins.slots.map (·.1) = List.range fn.ins.slots.length ∧ ∀ x r, fn.run x = some r →
 FSpec P f (encS fn.ins x []).toSt.heap ((Zh9 (encS fn.ins x []).env 0 fn.ins.slots.length).map (SV.toAV (encS fn.ins x []).heap)) (fun ret h => ret = (retL (Zh9 (encS fn.outs r []).env 0 fn.nr)).toAV (encS fn.outs r []).heap ∧ h = (encS fn.outs r []).toSt.heap)
def mapB (P : Program) (t e : Nat) : Bool := match P.underlying t with
 | some (.map kt et) => !decide (e = 0) && decide (et = e) && (match P.underlying kt with | some .string => true | _ => false)
 | some (.interface _) => decide (e = 0)
 | _ => false
def Z9l (P : Program) (f g : Nat) (sf : SFn) (xs ys : List sf.t.den) : Prop := match sf.cut with
 | none => SortPair P f g sf.t.size (xs.map sf.t.vals) (ys.map sf.t.vals)
 | some c => g = 1000000 ∧ CutPair P f sf.t.size (xs.map sf.t.vals) (ys.map sf.t.vals) (c xs)
structure CxOK (P : Program) (C : Cx) : Prop where
 T : Zo P C.T
 B : ∀ f ks fn, C.B f ks = some fn → FnOK P f fn
 BO : ∀ f ks fn, C.BO f ks = some fn → FnOKo P f fn
 mixed : P.follows .mixedOrders = true
 eqs : ∀ t, memN C.EQ t = true → eqB P t = true
 mp : ∀ t e, mapGet C.MP t = some e → mapB P t e = true
 so : ∀ f g sf, C.SO f g = some sf → Enters P f ∧ sf.t.plain = true ∧ ∀ xs ys, sf.run xs = some ys → Z9l P f g sf xs ys
 w : ∀ f ks fn, C.BW f ks = some fn → FnOKw P f fn
section
variable {P : Program} {C : Cx} {X : Ctx} {σ σ' : Nat → Option Blk} {F F' : Nat → Prop} {a : Act} {w w' : World} {s s' : TSt} {o : Oper}
theorem FSpec.leArgs {f : Nat} {h0 : List AObj} {args args' : List AV} {post : AV → List AObj → Prop} (h : FSpec P f h0 args' post) (hl : AV.leL args args') : FSpec P f h0 args post :=
 fun σ F w vs h1 h2 h3 => h σ F w vs h1 ((AV.leL_len hl).symm.trans h2) (fun j x u hx hu => by
  have hj : j < args.length := by rw [AV.leL_len hl]; exact (List.getElem?_eq_some_iff.1 hx).1
  exact RepV.le (AV.leL_get hl j _ x (List.getElem?_eq_getElem hj) hx) (h3 j _ u (List.getElem?_eq_getElem hj) hu))
theorem Ziz {s : St} {K : St → Prop} {fop : Operand} {ar : Array Operand} {ts : Array Nat} (ho : o.op = .call { callee := .value fop, args := ar, argTypes := ts }) {f : Nat} {caps : List AV} (hf : s.ev fop = .fn f caps) (hE : Enters P f) {R : AV}
  (spec : FSpec P f [] ((ar.toList.map s.ev ++ caps).map (AV.sub (Z20 []))) (fun r h => r = R ∧ h = [])) (hd : dOK X.n o.dst) (hK : K (St.put s o.dst (R.sub (Z38 [] s.heap.length)))) : opWPG P X o K s := by
 rintro Qc next a w hn ⟨σ, F, hr⟩
 obtain ⟨us, hfv, hul, hur⟩ := RepV.fnv (hf ▸ hr.ev fop)
 let vs : List Value := ar.toList.map a.eval ++ us
 have hl : ((ar.toList.map s.ev ++ caps).map (AV.sub (Z20 []))).length = vs.length := by simp [vs, hul]
 have hrep : ∀ (j : Nat) (x : AV) (u : Value), ((ar.toList.map s.ev ++ caps).map (AV.sub (Z20 [])))[j]? = some x → vs[j]? = some u → RepV (selσ [] σ) F w x u := fun j x u hx hu => by
  rw [List.getElem?_map, Option.map_eq_some_iff] at hx
  obtain ⟨y, hy, rfl⟩ := hx
  refine RepV.sel ?_
  by_cases hj : j < ar.toList.length
  ·rw [List.getElem?_append_left (by simpa using hj), List.getElem?_map, Option.map_eq_some_iff] at hy
   obtain ⟨q, hq, rfl⟩ := hy
   simp only [vs] at hu
   rw [List.getElem?_append_left (by simpa using hj), List.getElem?_map, hq] at hu
   injection hu with hu
   rw [← hu]
   exact hr.ev _
  ·rw [List.getElem?_append_right (by simpa using Nat.not_lt.1 hj)] at hy
   simp only [vs] at hu
   rw [List.getElem?_append_right (by simpa using Nat.not_lt.1 hj)] at hu
   simp only [List.length_map] at hy hu
   exact hur _ _ _ hy hu
 have hcalls := spec (selσ [] σ) F w vs (hr.heap.sel List.nodup_nil (by simp)) hl hrep
 have hrun : (execOp a.eval o).run P w = .ok (.enter f vs.toArray) w := by
  have hva : ar.map a.eval ++ us.toArray = vs.toArray := by
   apply Array.ext'
   simp [vs]
  simp [execOp, ho, resolve, hfv, Deferred.ofValue, invoke, hE vs.toArray w]
  simpa using hva ▸ hE vs.toArray w
 unfold Oper.wp
 rw [hrun]
 show Calls P f vs.toArray w _
 refine hcalls.mono ?_
 rintro e w' ⟨ret, h', σ', F', rv, ⟨rfl, rfl⟩, rfl, h1, h2, h3, h4, h5, h6, h7⟩
 obtain ⟨h8, h9⟩ := hr.back (keep := []) List.nodup_nil (by simp) h1 h2 h3 h4 h5 (fun id hid => absurd hid (Nat.not_lt_zero _)) (Nat.zero_le _) (fun k hk => absurd hk (Nat.not_lt_zero _))
 rw [Zjx] at h8
 refine hn _ _ _ hK ⟨_, _, h8.put hd h9⟩ ⟨h3.size, fun b hb => h3.block b hb ?_⟩
 rintro ⟨id, k, h, _⟩
 simp [selσ] at h
theorem op_newG {s : St} {K : St → Prop} {fop : Operand} {ar : Array Operand} {ts : Array Nat} (ho : o.op = .call { callee := .value fop, args := ar, argTypes := ts }) {f : Nat} {caps : List AV} (hf : s.ev fop = .fn f caps) (hE : Enters P f) {R : AV} {objs : List AObj}
  (spec : FSpec P f [] ((ar.toList.map s.ev ++ caps).map (AV.sub (Z20 []))) (fun r h => r = R ∧ h = objs)) (hd : dOK X.n o.dst) (hK : K (St.put (s.back [] objs) o.dst (R.sub (Z38 [] s.heap.length)))) : opWPG P X o K s := by
 rintro Qc next a w hn ⟨σ, F, hr⟩
 obtain ⟨us, hfv, hul, hur⟩ := RepV.fnv (hf ▸ hr.ev fop)
 let vs : List Value := ar.toList.map a.eval ++ us
 have hl : ((ar.toList.map s.ev ++ caps).map (AV.sub (Z20 []))).length = vs.length := by simp [vs, hul]
 have hrep : ∀ (j : Nat) (x : AV) (u : Value), ((ar.toList.map s.ev ++ caps).map (AV.sub (Z20 [])))[j]? = some x → vs[j]? = some u → RepV (selσ [] σ) F w x u := fun j x u hx hu => by
  rw [List.getElem?_map, Option.map_eq_some_iff] at hx
  obtain ⟨y, hy, rfl⟩ := hx
  refine RepV.sel ?_
  by_cases hj : j < ar.toList.length
  ·rw [List.getElem?_append_left (by simpa using hj), List.getElem?_map, Option.map_eq_some_iff] at hy
   obtain ⟨q, hq, rfl⟩ := hy
   simp only [vs] at hu
   rw [List.getElem?_append_left (by simpa using hj), List.getElem?_map, hq] at hu
   injection hu with hu
   rw [← hu]
   exact hr.ev _
  ·rw [List.getElem?_append_right (by simpa using Nat.not_lt.1 hj)] at hy
   simp only [vs] at hu
   rw [List.getElem?_append_right (by simpa using Nat.not_lt.1 hj)] at hu
   simp only [List.length_map] at hy hu
   exact hur _ _ _ hy hu
 have hcalls := spec (selσ [] σ) F w vs (hr.heap.sel List.nodup_nil (by simp)) hl hrep
 have hrun : (execOp a.eval o).run P w = .ok (.enter f vs.toArray) w := by
  have hva : ar.map a.eval ++ us.toArray = vs.toArray := by
   apply Array.ext'
   simp [vs]
  simp [execOp, ho, resolve, hfv, Deferred.ofValue, invoke, hE vs.toArray w]
  simpa using hva ▸ hE vs.toArray w
 unfold Oper.wp
 rw [hrun]
 show Calls P f vs.toArray w _
 refine hcalls.mono ?_
 rintro e w' ⟨ret, h', σ', F', rv, ⟨rfl, rfl⟩, rfl, h1, h2, h3, h4, h5, h6, h7⟩
 obtain ⟨h8, h9⟩ := hr.back (keep := []) List.nodup_nil (by simp) h1 h2 h3 h4 h5 (fun id hid => absurd hid (Nat.not_lt_zero _)) (Nat.zero_le _) (fun k hk => absurd hk (Nat.not_lt_zero _))
 refine hn _ _ _ hK ⟨_, _, h8.put hd h9⟩ ⟨h3.size, fun b hb => h3.block b hb ?_⟩
 rintro ⟨id, k, h, _⟩
 simp [selσ] at h
theorem Z95 {t : Ty} {o : Option Nat} {x : t.den} : ∀ ob ∈ ownObj t o x, ∃ e u, ∃ xs : List u.den, ob = .row e u xs := by
 intro ob h
 unfold ownObj at h
 split at h
 ·simp at h; exact ⟨_, _, _, h⟩
 ·cases h
theorem ownObjs_row : ∀ (ts : List Ty) (os : List (Option Nat)) (x : denL ts), ∀ ob ∈ ownObjs ts os x, ∃ e u, ∃ xs : List u.den, ob = .row e u xs
 | [], _, _, ob, h => by cases h
 | [t], os, x, ob, h => Z95 ob h
 | t :: u :: r, os, x, ob, h => by
  rcases List.mem_append.1 h with h | h
  ·exact Z95 ob h
  ·exact ownObjs_row (u :: r) os.tail x.2 ob h
theorem Zg3 {ob : TObj} (h : ∃ e u, ∃ xs : List u.den, ob = .row e u xs) (f : AV → AV) (H H' : List TObj) : (ob.toObj H).sub f = ob.toObj H' := by
 obtain ⟨e, u, xs, rfl⟩ := h
 rfl
theorem Ze9 (m L : Nat) (t : Ty) (o : Option Nat) (x : t.den) : (Z7q m t o x).sub (Z38 [] L) = Z7q (L + m) t o x := by
 cases t with
 | slice u =>
  cases o with
  | none => exact Z1f _ (.slice u) x
  | some e => simp [Z7q, AV.sub, Z38, Z9j]
 | int k => exact Z1f _ (.int k) x
 | byte => exact Z1f _ .byte x
 | bool => exact Z1f _ .bool x
 | str => exact Z1f _ .str x
 | one u => exact Z1f _ (.one u) x
 | pair a b => exact Z1f _ (.pair a b) x
 | ptr u => exact Z1f _ (.ptr u) x
 | nilS => exact Z1f _ .nilS x
 | nilI => exact Z1f _ .nilI x
 | adr => exact Z1f _ .adr x
 | mp t => exact Z1f _ (.mp t) x
 | mq t => exact Z1f _ (.mq t) x
 | fnc f => exact Z1f _ (.fnc f) x
 | clo f c => exact Z1f _ (.clo f c) x
 | ref t => exact Z1f _ (.ref t) x
theorem Zck {L : Nat} : ∀ (ts : List Ty) (os : List (Option Nat)) (x : denL ts) (m : Nat), (avLO m ts os x).map (AV.sub (Z38 [] L)) = avLO (L + m) ts os x
 | [], _, _, _ => rfl
 | [t], os, x, m => congrArg (fun z => [z]) (Ze9 m L t (ownHd os) x)
 | t :: u :: r, os, x, m => by
  simp only [avLO, List.map_cons]
  rw [Ze9, Zck (u :: r) os.tail x.2, Nat.add_assoc]
theorem Zdw {H : List TObj} (n : Nat) (t : Ty) (o : Option Nat) (x : t.den) (h : ∀ ob, (ownObj t o x)[0]? = some ob → H[n]? = some ob) : (Zix n t o x).toAV H = Z7q n t o x := by
 cases t with
 | slice u =>
  cases o with
  | none => rfl
  | some e =>
   have := h (.row e u x) rfl
   simp only [SV.toAV, Zix, Z7q]
   rw [Zb (by rw [Zf]; exact this)]
 | int k => rfl
 | byte => rfl
 | bool => rfl
 | str => rfl
 | one u => rfl
 | pair a b => rfl
 | ptr u => rfl
 | nilS => rfl
 | nilI => rfl
 | adr => rfl
 | mp t => rfl
 | mq t => rfl
 | fnc f => rfl
 | clo f c => rfl
 | ref t => rfl
theorem Zbh {H : List TObj} : ∀ (ts : List Ty) (os : List (Option Nat)) (x : denL ts) (n : Nat), (∀ j ob, (ownObjs ts os x)[j]? = some ob → H[n + j]? = some ob) → SV.toAVL H (Zbi n ts os x) = avLO n ts os x
 | [], _, _, _, _ => rfl
 | [t], os, x, n, h => congrArg (fun z => [z]) (Zdw n t (ownHd os) x (fun ob hob => h 0 ob hob))
 | t :: u :: r, os, x, n, h => by
  simp only [Zbi, avLO, SV.toAVL]
  rw [Zdw n t (ownHd os) x.1 (fun ob hob => h 0 ob (by
   simp only [ownObjs]
   rw [List.getElem?_append_left (List.getElem?_eq_some_iff.1 hob).1]; exact hob)), Zbh (u :: r) os.tail x.2 _ (fun j ob hob => by
   rw [Nat.add_assoc]
   refine h _ ob ?_
   simp only [ownObjs]
   rw [List.getElem?_append_right (Nat.le_add_right _ _), Nat.add_sub_cancel_left]; exact hob)]
theorem Zew (f : AV → AV) (l : List AV) : (retAV l).sub f = retAV (l.map (AV.sub f)) := by
 cases l with
 | nil => rfl
 | cons x r =>
  cases r with
  | nil => rfl
  | cons y r => simp only [retAV, List.map_cons, AV.sub, AV.subL_eq]
theorem Zft {H : List TObj} {n : Nat} (ts : List Ty) (os : List (Option Nat)) (x : denL ts) (h : ∀ j ob, (ownObjs ts os x)[j]? = some ob → H[n + j]? = some ob) : (Z8x n ts os x).toAV H = retAV (avLO n ts os x) := by
 have e := Zbh ts os x n h
 unfold Z8x
 cases hs : Zbi n ts os x with
 | nil => rw [hs] at e; rw [← e]; rfl
 | cons x r =>
  rw [hs] at e
  cases r with
  | nil => rw [← e]; rfl
  | cons x' r => rw [← e]; rfl
theorem Zir (hw : s.wf) {l : List TObj} (hl : ∀ ob ∈ l, ∃ e u, ∃ xs : List u.den, ob = .row e u xs) : StLe { s.toSt with heap := s.toSt.heap ++ l.map (TObj.toObj []) } (s.pushL l).toSt := by
 have e1 : (s.pushL l).toSt.heap = s.toSt.heap ++ l.map (TObj.toObj []) := by
  simp only [TSt.toSt, TSt.pushL, List.map_append]
  congr 1
  ·refine List.map_congr_left fun o ho => ?_
   cases o with
   | box e cs =>
    obtain ⟨i, hi⟩ := List.getElem?_of_mem ho
    simp only [TObj.toObj]; rw [Z27 cs (hw.2 i e cs hi)]
   | _ => rfl
  ·refine List.map_congr_left fun o ho => ?_
   obtain ⟨e, u, xs, rfl⟩ := hl o ho
   rfl
 refine ⟨fun i => ?_, e1.symm ▸ rfl, fun i o o' ho ho' => ?_⟩
 ·simp only [TSt.toSt, Zl, TSt.pushL]
  rw [Z7i _ (hw.1 i)]; exact .refl _
 ·rw [e1] at ho'
  simp only at ho
  rw [ho] at ho'; cases ho'; exact .refl _
theorem Z8i {f : AV → AV} {h H : List TObj} (hL : Lends f h H) : ∀ (ts : List Ty) (xs : List SV) (y : denL ts), asTL h ts xs = some y → AV.leL ((xs.map (SV.toAV H)).map (AV.sub f)) (avL ts y) := by
 intro ts
 induction ts with
 | nil =>
  intro xs y hy
  cases xs with
  | nil => exact trivial
  | cons x l => cases hy
 | cons t r ih =>
  intro xs y hy
  cases xs with
  | nil => cases hy
  | cons x l =>
   simp only [asTL] at hy
   cases hp : asT h t x with
   | none => rw [hp] at hy; cases hy
   | some p =>
    rw [hp] at hy
    simp only at hy
    cases hq : asTL h r l with
    | none => rw [hq] at hy; cases r <;> cases hy
    | some q =>
     rw [hq] at hy
     have h2 := ih l q hq
     cases r with
     | nil =>
      cases hy
      exact ⟨Z6t hL hp, h2⟩
     | cons u r =>
      cases hy
      exact ⟨Z6t hL hp, h2⟩
theorem Zb4 {h : List TObj} : ∀ (ts : List Ty) (y : denL ts), SV.toAVL h (svL ts y) = avL ts y
 | [], _ => rfl
 | [t], _ => rfl
 | t :: u :: r, y => by simp only [svL, SV.toAVL, avL]; rw [Zb4 (u :: r) y.2]; rfl
theorem Zdq {h : List TObj} (ts : List Ty) (y : denL ts) : (Zcz ts y).toAV h = retAV (avL ts y) := by
 have e := Zb4 (h := h) ts y
 unfold Zcz
 cases hs : svL ts y with
 | nil => rw [hs] at e; rw [← e]; rfl
 | cons x r =>
  rw [hs] at e
  cases r with
  | nil => rw [← e]; rfl
  | cons x' r => rw [← e]; rfl
theorem Zbf {l : List AV} (h : ∀ x ∈ l, x.plain = true) : AV.plainL l = true := by
 induction l with
 | nil => rfl
 | cons x r ih => simp only [AV.plainL, h x (List.mem_cons_self ..), ih (fun y hy => h y (List.mem_cons_of_mem _ hy))]; rfl
theorem Ty.plain_cells : ∀ (t : Ty) (x : t.den), t.plain = true → ∀ y ∈ t.cells x, y.plain = true
 | .one t, x, h => t.plain_cells x h
 | .pair a b, x, h => fun y hy => by
  simp only [Ty.plain, Bool.and_eq_true] at h
  rcases List.mem_append.1 hy with h1 | h1
  ·exact a.plain_cells _ h.1 y h1
  ·exact b.plain_cells _ h.2 y h1
 | .int _, _, _ | .byte, _, _ | .bool, _, _ | .str, _, _ => fun y hy => by simp [Ty.cells] at hy; subst hy; rfl
theorem Ty.plain_av {t : Ty} (x : t.den) (h : t.plain = true) : (t.av x).plain = true := by
 cases ha : t.isAgg with
 | true => rw [Ty.av_agg ha]; exact Zbf (t.plain_cells x h)
 | false => exact t.plain_cells x h _ (by rw [Ty.cells_leaf ha]; simp)
theorem avL_plain : ∀ (ts : List Ty) (y : denL ts), allPlain ts = true → ∀ x ∈ avL ts y, x.plain = true
 | [], _, _ => fun x hx => by simp [avL] at hx
 | [t], y, h => fun x hx => by
  simp [avL] at hx
  subst hx
  simp only [allPlain, Bool.and_true] at h
  exact t.plain_av y h
 | t :: u :: r, y, h => fun x hx => by
  simp only [allPlain, Bool.and_eq_true] at h
  rcases List.mem_cons.1 hx with rfl | hx
  ·exact t.plain_av _ h.1
  ·exact avL_plain (u :: r) y.2 (by simp only [allPlain, Bool.and_eq_true]; exact h.2) x hx
theorem Zd5 {l : List AV} (h : ∀ x ∈ l, x.plain = true) : (retAV l).plain = true := by
 unfold retAV
 split
 ·exact h _ (by simp)
 ·exact Zbf h
theorem Zi5 (f : AV → AV) : ∀ (ts : List Ty) (y : denL ts), (avL ts y).map (AV.sub f) = avL ts y
 | [], _ => rfl
 | [t], y => congrArg (fun z => [z]) (Z1f f t y)
 | t :: u :: r, y => by simp only [avL, List.map_cons]; rw [Z1f, Zi5 f (u :: r) y.2]
theorem Zg7 (f : AV → AV) (ts : List Ty) (y : denL ts) : (retAV (avL ts y)).sub f = retAV (avL ts y) := by
 have h := Zi5 f ts y
 unfold retAV
 split
 ·rename_i x hx
  rw [hx] at h
  simpa using h
 ·rw [AV.sub, AV.subL_eq, h]
theorem Zhh (s : TSt) (l : List Operand) : l.map s.toSt.ev = (l.map s.ev).map (SV.toAV s.heap) := by
 rw [List.map_map]; exact List.map_congr_left fun x _ => TSt.ev_ok s x
theorem Zh8 (h : List TObj) (x : SV) : (fnV x).toAV h = x.toAV h := by
 unfold fnV
 split <;> first | rfl | exact congrArg (AV.fn _) (Z2d _ _)
theorem Z9d (hC : CxOK P C) (hd : dOK X.n o.dst) {fop : Operand} {ar : Array Operand} {ts : Array Nat} (ho : o.op = .call { callee := .value fop, args := ar, argTypes := ts }) {g : Nat} {fn : TFn} (hfn : FnOK P g fn) : Z5r P X o s (Z76 C s fop g ar.toList fn) := by
 obtain ⟨hE, hspec⟩ := hfn
 unfold Z76
 generalize hs1 : frzFor C.TY s (s.ev fop :: ar.toList.map s.ev) = s1
 have hfrz := Z2f (X := X) (C := C) (s := s) (s.ev fop :: ar.toList.map s.ev)
 rw [hs1] at hfrz
 simp only
 split
 ·rename_i g' caps hf'
  split
  ·rename_i x hx
   split
   ·rename_i hg
    subst hg
    refine ⟨hfrz.2, fun y hy K hK => opWPG.from hfrz.1 ?_⟩
    have h1 := Z8i (Lends.none (Z20 []) s1.heap) _ _ _ hx
    have h2 := hspec x y hy
    refine Ziz (R := retAV (avL fn.res y)) ho (f := g') (caps := SV.toAVL s1.heap caps) (by rw [TSt.ev_ok, ← Zh8, hf']; rfl) hE ((h2 : FSpec P g' [] _ _).leArgs ?_) hd ⟨s1.put o.dst (Zcz fn.res y), ?_, hK⟩
    ·rw [List.map_append] at h1
     rw [Zhh, SV.toAVL_eq]
     simpa using h1
    ·rw [TSt.put_ok, Zdq, Zg7]; exact .refl _ _
   ·trivial
  ·trivial
 ·trivial
theorem Zdl (hC : CxOK P C) (hd : dOK X.n o.dst) {fop : Operand} {ar : Array Operand} {ts : Array Nat} (ho : o.op = .call { callee := .value fop, args := ar, argTypes := ts }) : Z5r P X o s (Zju C s fop ar.toList) := by
 unfold Zju
 split
 ·rename_i g caps hf
  split
  ·rename_i fn hfn
   have hfn' := hC.B g _ fn hfn
   obtain ⟨hE, hspec⟩ := hC.B g _ fn hfn
   split
   ·rename_i hpl
    split
    ·rename_i x hx
     refine ⟨.refl _, fun y hy K hK => ?_⟩
     have h1 := Z8i (Zbv s) _ _ _ hx
     have h2 := hspec x y hy
     refine op_lent (R := retAV (avL fn.res y)) ho (f := g) (caps := SV.toAVL s.heap caps) (by rw [TSt.ev_ok, ← Zh8, hf]; rfl) hE ((h2 : FSpec P g [] _ _).leArgs ?_) (Zd5 (avL_plain _ _ hpl)) hd ⟨s.put o.dst (Zcz fn.res y), ?_, hK⟩
     ·rw [List.map_append] at h1
      rw [Zhh, SV.toAVL_eq]
      simpa using h1
     ·rw [TSt.put_ok, Zdq]; exact .refl _ _
    ·exact Z9d hC hd ho hfn'
   ·exact Z9d hC hd ho hfn'
  ·split
   ·rename_i fn hfn
    obtain ⟨hE, hspec⟩ := hC.BO g _ fn hfn
    generalize hs1 : frzFor C.TY s (s.ev fop :: ar.toList.map s.ev) = s1
    have hfrz := Z2f (X := X) (C := C) (s := s) (s.ev fop :: ar.toList.map s.ev)
    rw [hs1] at hfrz
    simp only
    split
    ·rename_i g' caps' hf'
     split
     ·rename_i x hx
      split
      ·rename_i hg
       subst hg
       refine ⟨hfrz.2, fun y hy K hK => opWPG.from hfrz.1 ?_⟩
       have h1 := Z8i (Lends.none (Z20 []) s1.heap) _ _ _ hx
       have h2 := hspec x y hy
       intro Qc next a w hn hr
       have hw : s1.wf := by obtain ⟨σ, F, hr'⟩ := hr; exact Zef hr'
       have hlen : s1.toSt.heap.length = s1.heap.length := by simp [TSt.toSt]
       refine op_newG (R := retAV (avLO 0 fn.res fn.own y)) (objs := (ownObjs fn.res fn.own y).map (TObj.toObj [])) ho (f := g') (caps := SV.toAVL s1.heap caps') (by rw [TSt.ev_ok, ← Zh8, hf']; rfl) hE ((h2 : FSpec P g' [] _ _).leArgs ?_) hd ⟨(s1.pushL (ownObjs fn.res fn.own y)).put o.dst (Z8x s1.heap.length fn.res fn.own y), ?_, hK⟩ Qc next a w hn hr
       ·rw [List.map_append] at h1
        rw [Zhh, SV.toAVL_eq]
        simpa using h1
       ·rw [TSt.put_ok]
        refine (StLe.put (s := s1.toSt.back [] ((ownObjs fn.res fn.own y).map (TObj.toObj []))) ?_ (AV.le_of_eq ?_) _).imp
        ·have h3 := Zir hw (ownObjs_row fn.res fn.own y)
         have e : s1.toSt.back [] ((ownObjs fn.res fn.own y).map (TObj.toObj [])) = { s1.toSt with heap := s1.toSt.heap ++ (ownObjs fn.res fn.own y).map (TObj.toObj []) } := by
          simp only [St.back, Z4l, idx, List.drop_zero, List.length_nil, List.map_map]
          congr 1
          congr 1
          ·apply List.ext_getElem?
           intro i
           simp
          ·refine List.map_congr_left fun ob hob => ?_
           exact Zg3 (ownObjs_row _ _ _ ob hob) _ _ _
         rw [e]; exact h3
        ·rw [Zew, Zck, hlen, Nat.add_zero]
         rw [Zft (H := (s1.pushL (ownObjs fn.res fn.own y)).heap) fn.res fn.own y (fun j ob hob => by
          simp only [TSt.pushL]
          rw [List.getElem?_append_right (Nat.le_add_right _ _), Nat.add_sub_cancel_left]; exact hob)]
      ·trivial
     ·trivial
    ·trivial
   ·trivial
 ·trivial
theorem nil_ok (hT : Zo P C.T) (hd : dOK X.n o.dst) {op : BinOp} {t t' : Nat} {y z : Operand} (ho : o.op = .binOp op t y z t') {r : R2} (hr : nilT C s op t (s.ev y) (s.ev z) = some r) : Tell2 P X o s r := by
 unfold nilT at hr
 split at hr
 ·rename_i e m p zv b ht hz hb
  have hop : op = .eql ∨ op = .neq := by
   unfold eqOp at hb
   split at hb
   ·exact .inl ‹_›
   ·split at hb
    ·exact .inr ‹_›
    ·cases hb
  have hbv : decide (op = .neq) = b := by
   unfold eqOp at hb
   split at hb
   ·rename_i h; subst h; cases hb; rfl
   ·split at hb
    ·rename_i h; subst h; cases hb; rfl
    ·cases hb
  have key : ∀ {c1 c2 : Prop} {c : Prop}, Z9w (s.toSt.ev y) = some (c1, c2) → (c1 → c) → (c2 → ¬ c) → Tell2 P X o s (.nq c b) := by
   intro c1 c2 c hn h1 h2 K hK1 hK2
   refine Zj0 hop ho hT ht (by rw [TSt.ev_ok, hz]; rfl) hn hd (fun hc => ⟨_, ?_, hK1 (h1 hc)⟩) (fun hc b' => ⟨_, ?_, hK2 (h2 hc) b'⟩)
   ·rw [TSt.put_ok, hbv]; exact .refl _ _
   ·rw [TSt.put_ok]; exact .refl _ _
  split at hr
  ·rename_i u xs hy
   cases hr
   refine key (c1 := List.map u.cells xs ≠ []) (c2 := List.map u.cells xs = []) (by rw [TSt.ev_ok, hy]; rfl) (fun h h' => h ?_) (fun h h' => h' ?_)
   ·exact (congrArg (List.map u.cells) (h' : (xs : List u.den) = [])).trans rfl
   ·exact List.map_eq_nil_iff.1 h
  ·rename_i id sz hy
   split at hr
   ·rename_i e' u xs hq
    cases hr
    refine key (c1 := rowLen s.heap id ≠ 0) (c2 := rowLen s.heap id = 0) (by rw [TSt.ev_ok, hy]; rfl) (fun h h' => h ?_) (fun h h' => h' ?_)
    ·rw [Zb hq, h']; rfl
    ·rw [Zb hq] at h; exact List.eq_nil_of_length_eq_zero h
   ·cases hr; trivial
  ·rename_i id sz off len hy
   cases hr
   exact key (c1 := len ≠ 0) (c2 := len = 0) (by rw [TSt.ev_ok, hy]; rfl) (fun h => h) (fun h h' => h' h)
  ·cases hr; trivial
 ·cases hr
theorem Zhj {h : List TObj} {T : Tab} {ft : Nat} {x y : SV} {q : Bool} (he : Zhk T ft x y = some q) : Zae T ft (x.toAV h) (y.toAV h) = some q := by
 unfold Zhk at he
 split at he
 ·rename_i ht
  split at he
  ·rename_i k a k' b hx hy
   split at he
   ·rename_i hk
    cases he
    simp only [Z1h hx, Z1h hy, Zae, ht, hk, if_true]
    rfl
   ·cases he
  ·cases he
 ·rename_i ht
  split at he
  ·rename_i a b hx hy
   cases he
   simp only [Z2l hx, Z2l hy, Zae, ht]
   rfl
  ·cases he
 ·rename_i ht
  split at he
  ·rename_i a b hx hy
   cases he
   simp only [Z2z hx, Z2z hy, Zae, ht]
   rfl
  ·cases he
 ·cases he
theorem Z86 {h : List TObj} {T : Tab} : ∀ (fs : List (Nat × Nat)) (xs ys : List SV) (q : Bool), Z5j T fs xs ys = some q → Z4y T fs (SV.toAVL h xs) (SV.toAVL h ys) = some q
 | [], xs, ys, q, he => by simp only [Z5j] at he; cases he; rfl
 | (off, ft) :: r, xs, ys, q, he => by
  simp only [Z5j] at he
  split at he
  ·rename_i x y hx hy
   split at he
   ·rename_i p q' hp hq
    cases he
    have h1 := Zhj (h := h) hp
    have h2 := Z86 (h := h) r xs ys q' hq
    simp only [Z4y, Zb3, hx, hy, Option.map_some, Option.getD_some, h1, h2]
   ·cases he
  ·cases he
theorem Zia {h : List TObj} {x : SV} {xs : List SV} (he : aggS x = some xs) : x.toAV h = .agg (SV.toAVL h xs) := by
 unfold aggS at he
 split at he
 ·cases he; rfl
 ·rename_i t y
  split at he
  ·rename_i ht
   cases he
   rw [Z2d]
   exact Ty.av_agg ht y
  ·cases he
 ·cases he
theorem eqs_ok (hC : CxOK P C) (hd : dOK X.n o.dst) {op : BinOp} {t t' : Nat} {y z : Operand} (ho : o.op = .binOp op t y z t') {r : R2} (hr : eqsT C s op t (s.ev y) (s.ev z) = some r) : Tell2 P X o s r := by
 unfold eqsT at hr
 split at hr
 ·rename_i fs m p zv xs ys b ht hx hy hb
  split at hr
  ·rename_i q hq hE
   cases hr
   refine ⟨.refl _, fun K hK => ?_⟩
   refine opT.of (s1 := s) (so := s.toSt) (fun K' hK' => op_eqs hC.T hb ho ht (hC.eqs t hE) (by rw [TSt.ev_ok, Zia hx]) (by rw [TSt.ev_ok, Zia hy]) (Z86 (h := s.heap) _ _ _ _ hq) hd hK') (.refl _) (AV.le_of_eq ?_) hK
   cases b <;> cases q <;> rfl
  ·cases hr; trivial
 ·cases hr
theorem ifc_ok (hC : CxOK P C) (hd : dOK X.n o.dst) {op : BinOp} {t t' : Nat} {y z : Operand} (ho : o.op = .binOp op t y z t') {x : SV} (hr : ifcT C op t (s.ev y) z = some x) : Tell2 P X o s (.ok s x) := by
 unfold ifcT at hr
 split at hr
 ·rename_i b hb hm hn
  cases hr
  have hu : ∃ ms, P.underlying t = some (.interface ms) := by
   have h1 := hC.mp t 0 hm
   unfold mapB at h1
   split at h1
   ·rename_i kt et h2
    rw [Bool.and_eq_true, Bool.and_eq_true] at h1
    exact absurd h1.1.1 (by decide)
   ·rename_i ms h2; exact ⟨ms, h2⟩
   ·cases h1
  obtain ⟨ms, hu⟩ := hu
  have hy : s.toSt.ev y = .v .nilIface := by
   rw [TSt.ev_ok]
   unfold isNI at hn
   split at hn
   ·rename_i h; rw [h]; rfl
   ·rename_i h; rw [h]; rfl
   ·cases hn
  refine ⟨.refl _, fun K hK => ?_⟩
  refine opT.of (s1 := s) (so := s.toSt) (fun K' hK' => op_ifc hb ho hu hy hd hK') (.refl _) (AV.le_of_eq ?_) hK
  cases b <;> rfl
 ·cases hr
theorem Z8v {u : Ty} {z : Value} (h : zeroVB0 u z = true) : u.scal = true ∧ z = u.vl u.d := by
 unfold zeroVB0 at h
 split at h
 ·split at h
  ·simp only [Bool.and_eq_true, decide_eq_true_eq] at h
   obtain ⟨rfl, rfl⟩ := h
   exact ⟨rfl, rfl⟩
  ·cases h
 ·split at h
  ·obtain rfl := of_decide_eq_true h
   exact ⟨rfl, rfl⟩
  ·cases h
 ·split at h
  ·rename_i b
   cases b with
   | true => cases h
   | false => exact ⟨rfl, rfl⟩
  ·cases h
 ·split at h
  ·rename_i b
   have h0 := of_decide_eq_true h
   refine ⟨rfl, ?_⟩
   show Value.string b = .string ByteArray.empty
   congr 1
   apply ByteArray.ext
   exact Array.eq_empty_of_size_eq_zero h0
  ·cases h
 ·cases h
theorem Zbe {t : Ty} (h : t.scal = true) : t.mval = true ∧ ∀ x : t.den, t.pvs x = [t.vl x] := by
 cases t <;> first | exact ⟨rfl, fun x => rfl⟩ | cases h
theorem Zeb {t : Ty} (ht : ∀ a b, t ≠ .pair a b) {l r : List Value} (h : zeroPs t l = some r) : t.mval = true ∧ l = t.pvs t.d ++ r := by
 cases l with
 | nil =>
  unfold zeroPs at h
  split at h
  ·exact absurd rfl (ht _ _)
  ·cases h
  ·rename_i hl; cases hl
 | cons v l =>
  unfold zeroPs at h
  split at h
  ·exact absurd rfl (ht _ _)
  ·cases h
  ·rename_i hl
   cases hl
   split at h
   ·rename_i hz
    cases h
    obtain ⟨h1, h2⟩ := Z8v hz
    obtain ⟨h3, h4⟩ := Zbe h1
    exact ⟨h3, by rw [h4, h2]; rfl⟩
   ·cases h
theorem zeroPs_ok : ∀ (t : Ty) (l r : List Value), zeroPs t l = some r → t.mval = true ∧ l = t.pvs t.d ++ r
 | .pair a b, l, r, h => by
  unfold zeroPs at h
  split at h
  ·rename_i r1 h1
   obtain ⟨m1, e1⟩ := zeroPs_ok a _ _ h1
   obtain ⟨m2, e2⟩ := zeroPs_ok b _ _ h
   refine ⟨by simp only [Ty.mval, m1, m2, Bool.and_self], ?_⟩
   rw [e1, e2, ← List.append_assoc]; rfl
  ·cases h
 | .int _, _, _, h | .byte, _, _, h | .bool, _, _, h | .str, _, _, h | .slice _, _, _, h | .one _, _, _, h | .ptr _, _, _, h | .nilS, _, _, h | .nilI, _, _, h | .adr, _, _, h | .mp _, _, _, h | .mq _, _, _, h | .fnc _, _, _, h | .clo _ _, _, _, h | .ref _, _, _, h => Zeb (fun _ _ e => by cases e) h
theorem Zfg {u : Ty} {z : Value} (h : Zfh u z = true) : u.mval = true ∧ z = u.vl u.d := by
 unfold Zfh at h
 split at h
 ·rename_i a b
  split at h
  ·rename_i vs
   split at h
   ·rename_i hz
    obtain ⟨h1, h2⟩ := zeroPs_ok _ _ _ hz
    refine ⟨h1, ?_⟩
    rw [List.append_nil] at h2
    show Value.agg vs = .agg ((Ty.pair a b).pvs (Ty.pair a b).d).toArray
    rw [← h2]
   ·cases h
  ·cases h
 ·obtain ⟨h1, h2⟩ := Z8v h
  exact ⟨(Zbe h1).1, h2⟩
theorem Z72 (hC : CxOK P C) {t : Nat} {u : Ty} (h : Zf3 C t = some u) : ∃ kt et i, P.underlying t = some (.map kt et) ∧ P.underlying kt = some .string ∧ TIOk P et i ∧ u.mval = true ∧ i.zero = u.vl u.d := by
 unfold Zf3 at h
 split at h
 ·rename_i e he
  have hb := hC.mp t e he
  split at h
  ·cases h
  rename_i hne
  have hne := of_decide_eq_false hne
  split at h
  ·rename_i i u' hi hu
   split at h
   ·rename_i hz
    cases h
    obtain ⟨hs, hz⟩ := Zfg hz
    unfold mapB at hb
    split at hb
    ·rename_i kt et hm
     rw [Bool.and_eq_true, Bool.and_eq_true] at hb
     obtain ⟨⟨_, h1⟩, h2⟩ := hb
     obtain rfl := of_decide_eq_true h1
     split at h2
     ·rename_i hk
      exact ⟨kt, et, i, hm, hk, hC.T _ _ hi, hs, hz⟩
     ·cases h2
    ·exact absurd (of_decide_eq_true hb) hne
    ·cases hb
   ·cases h
  ·cases h
 ·cases h
theorem Z61 (hC : CxOK P C) (hd : dOK X.n o.dst) {t : Nat} (ho : o.op = .makeMap t none) : Z5r P X o s (Z73 C s t) := by
 unfold Z73
 split
 ·rename_i u hu
  refine ⟨Zx _, fun K hK => opWPG.wf fun hw => ?_⟩
  have hlen : s.toSt.heap.length = s.heap.length := by simp [TSt.toSt]
  refine opTG.of (fun K' hK' => Zd9 ho hd hK') (Z5c hw (ob := .mapo u []) (fun e' cs h => by cases h) rfl) ?_ hK
  rw [hlen]; exact .refl _
 ·trivial
theorem Z7v (hC : CxOK P C) (hd : dOK X.n o.dst) {t : Nat} {x k : Operand} {b : Bool} (ho : o.op = .lookup t x k b) : Z5r P X o s (Z9z C s t (s.ev x) (s.ev k) b) := by
 unfold Z9z
 split
 ·rename_i u id q hu hx hq
  obtain ⟨kt, et, i, h1, h2, h3, h4, h5⟩ := Z72 hC hu
  split
  ·rename_i u' es hob
   split
   ·rename_i es' hes
    obtain ⟨e1, h9⟩ := Ze hes
    injection e1 with e1
    injection e1 with e0 e1
    have e2 := e1.symm
    clear e1
    subst e2
    obtain rfl : es = es' := h9
    refine ⟨.refl _, fun K hK => ?_⟩
    have hob' : s.toSt.heap[id]? = some (.mapo (mapV u es)) := by rw [TSt.heap_get, hob]; rfl
    refine opTG.of (s1 := s) (so := s.toSt) (fun K' hK' => Zez ho h1 h2 h3 (by rw [TSt.ev_ok, hx]; rfl) (by rw [TSt.ev_ok, Z2z hq]) hob' hd hK') (.refl _) ?_ hK
    have e : (Zz q (mapV u es)).getD i.zero = u.vl (Option.getD (mget q es) u.d) := by
     rw [Z7t, h5]; cases mget q es <;> rfl
    have e2 : (Zz q (mapV u es)).isSome = Option.isSome (mget q es) := by
     rw [Z7t]; cases mget q es <;> rfl
    have e3 : ∀ h : List TObj, (SV.val u (Option.getD (mget q es) u.d)).toAV h = Z52 (u.vl (Option.getD (mget q es) u.d)) := fun h => Ty.av_mv h4 _
    unfold lkAV
    rw [e, e2]
    cases b with
    | true =>
     refine AV.le_of_eq ?_
     show AV.tup _ = AV.tup [(SV.val u (Option.getD (mget q es) u.d)).toAV s.heap, AV.v (.bool (Option.isSome (mget q es)))]
     rw [e3]
    | false => exact AV.le_of_eq (e3 _).symm
   ·trivial
  ·trivial
 ·rename_i u u' es q hu hx hq
  obtain ⟨kt, et, i, h1, h2, h3, h4, h5⟩ := Z72 hC hu
  split
  ·rename_i es' hes
   obtain ⟨e1, h9⟩ := Ze hes
   subst e1
   obtain rfl : es = es' := h9
   refine ⟨.refl _, fun K hK => ?_⟩
   refine opTG.of (s1 := s) (so := s.toSt) (fun K' hK' => Zf0 ho h1 h2 h3 (es := mapV u es) (by rw [TSt.ev_ok, hx]; rfl) (by rw [TSt.ev_ok, Z2z hq]) hd hK') (.refl _) ?_ hK
   have e : ∀ es : List (ByteArray × u.den), (Zz q (mapV u es)).getD i.zero = u.vl (Option.getD (mget q es) u.d) := fun es => by
    rw [Z7t, h5]; cases mget q es <;> rfl
   have e2 : ∀ es : List (ByteArray × u.den), (Zz q (mapV u es)).isSome = Option.isSome (mget q es) := fun es => by
    rw [Z7t]; cases mget q es <;> rfl
   have e3 : ∀ h : List TObj, (SV.val u (Option.getD (mget q es) u.d)).toAV h = Z52 (u.vl (Option.getD (mget q es) u.d)) := fun h => Ty.av_mv h4 _
   unfold lkAV
   rw [e es, e2 es]
   cases b with
   | true =>
    refine AV.le_of_eq ?_
    show AV.tup _ = AV.tup [(SV.val u (Option.getD (mget q es) u.d)).toAV s.heap, AV.v (.bool (Option.isSome (mget q es)))]
    rw [e3]
   | false => exact AV.le_of_eq (e3 _).symm
  ·trivial
 ·trivial
theorem Ziq (hC : CxOK P C) (hd : dOK X.n o.dst) {t : Nat} {x : Operand} (ho : o.op = .range t x) : Z5r P X o s (Zg9 C s t (s.ev x)) := by
 unfold Zg9
 split
 ·rename_i u u' es hu hx
  obtain ⟨kt, et, i, h1, h2, h3, h4, h5⟩ := Z72 hC hu
  split
  ·rename_i es' hes
   obtain ⟨e1, h9⟩ := Ze hes
   subst e1
   obtain rfl : es = es' := h9
   refine ⟨Zx _, fun K hK => opWPG.wf fun hw => ?_⟩
   have hlen : s.toSt.heap.length = s.heap.length := by simp [TSt.toSt]
   refine opTG.of (fun K' hK' => Ziy ho h1 (es := mapV u es) (by rw [TSt.ev_ok, hx]; rfl) hd hK') (Z5c hw (ob := .iter u es) (fun e' cs h => by cases h) ⟨rfl, rfl⟩) ?_ hK
   rw [hlen]; exact .refl _
  ·trivial
 ·trivial
theorem Zbt (hC : CxOK P C) (hm : X.m = C.m) (hd : dOK X.n o.dst) {t : Nat} {x k v : Operand} (ho : o.op = .mapUpdate t x k v) : Tell2 P X o s (Z60 C s t (s.ev x) (s.ev k) (s.ev v)) := by
 unfold Z60
 split
 ·rename_i u id q hu hx hq
  obtain ⟨kt, et, i, h1, h2, h3, h4, h5⟩ := Z72 hC hu
  split
  ·rename_i u' es hob
   split
   ·rename_i es' y hes hy
    obtain ⟨e1, h9⟩ := Ze hes
    injection e1 with e1
    injection e1 with e0 e1
    have e2 := e1.symm
    clear e1
    subst e2
    obtain rfl : es = es' := h9
    refine ⟨.of _ _ rfl, fun K hK => ?_⟩
    have hob' : s.toSt.heap[id]? = some (.mapo (mapV u es)) := by rw [TSt.heap_get, hob]; rfl
    have hv : AV.le (s.toSt.ev v) (Z52 (u.vl y)) := by
     have h6 := Zak (h := s.heap) hy
     rw [Ty.av_mv h4] at h6
     rw [TSt.ev_ok]; exact h6
    have hid : id < s.heap.length := by rw [Zf] at hob; exact (List.getElem?_eq_some_iff.1 hob).1
    have hrow : ∀ j, rowLen (setH s.heap id (.mapo u (mset q y es))) j = rowLen s.heap j := fun j => by
     unfold rowLen
     rw [Zf, Zf, setH_eq]
     by_cases hj : j = id
     ·subst hj
      rw [List.getElem?_set_self hid, ← Zf, hob]
     ·rw [List.getElem?_set_ne (by omega)]
    refine opT.of (fun K' hK' => Zbl ho h1 h2 (by rw [TSt.ev_ok, hx]; rfl) (by rw [TSt.ev_ok, Z2z hq]) hv hob' hd hK') (Zes (fun j => (hrow j).symm) (by rw [Zgh]; exact ObjLe.refl _)) (.refl _) hK
   ·trivial
  ·trivial
 ·trivial
theorem wrap_ok (hT : Zo P C.T) (hd : dOK X.n o.dst) {op : BinOp} {t t' : Nat} {y z : Operand} (ho : o.op = .binOp op t y z t') {x : SV} (hx : wrapT C op (s.ev y) (s.ev z) = some x) : Tell2 P X o s (.ok s x) := by
 unfold wrapT at hx
 split at hx
 ·rename_i a b _ hy hz
  have fin : ∀ {r : Int} {x : SV}, x = .val (.int .i64) (IntKind.wrap .i64 r) → Zdg op .i64 a b = some (Zcm .i64 r) → op ≠ .shl → op ≠ .shr → Tell2 P X o s (.ok s x) := by
   intro r x he hev h1 h2
   subst he
   have e : Z6y op (.int .i64 a) (.int .i64 b) = Zdg op .i64 a b := by
    cases op <;> first | exact absurd rfl h1 | exact absurd rfl h2 | simp [Z6y]
   have h3 : Zi C.T s.toSt o.op = some (True, .v (.int .i64 (IntKind.wrap .i64 r))) := by
    rw [ho]
    simp only [Zi, TSt.ev_ok, Z1h hy, Z1h hz, e, hev]
    rfl
   exact Zbo hT hd (r := .ok (.val (.int .i64) (IntKind.wrap .i64 r))) ⟨_, _, h3, trivial, .refl _⟩
  split at hx
  ·cases hx; exact fin rfl rfl (fun h => by cases h) (fun h => by cases h)
  ·cases hx; exact fin rfl rfl (fun h => by cases h) (fun h => by cases h)
  ·cases hx; exact fin rfl rfl (fun h => by cases h) (fun h => by cases h)
  ·cases hx
 ·cases hx
theorem vals_ok : ∀ (t : Ty), t.plain = true → ∀ x : t.den, t.cells x = (t.vals x).map .v ∧ (t.vals x).length = t.size
 | .int _, _, _ => ⟨rfl, rfl⟩
 | .byte, _, _ => ⟨rfl, rfl⟩
 | .bool, _, _ => ⟨rfl, rfl⟩
 | .str, _, _ => ⟨rfl, rfl⟩
 | .one t, h, x => vals_ok t h x
 | .pair a b, h, x => by
  simp only [Ty.plain, Bool.and_eq_true] at h
  obtain ⟨h1, h2⟩ := vals_ok a h.1 x.1
  obtain ⟨h3, h4⟩ := vals_ok b h.2 x.2
  refine ⟨?_, ?_⟩
  ·show a.cells x.1 ++ b.cells x.2 = (a.vals x.1 ++ b.vals x.2).map .v
   rw [h1, h3, List.map_append]
  ·show (a.vals x.1 ++ b.vals x.2).length = a.size + b.size
   rw [List.length_append, h2, h4]
 | .slice _, h, _ => by cases h
 | .ptr _, h, _ => by cases h
 | .nilS, h, _ => by cases h
 | .nilI, h, _ => by cases h
 | .adr, h, _ => by cases h
 | .mp _, h, _ => by cases h
 | .mq _, h, _ => by cases h
 | .fnc _, h, _ => by cases h
 | .clo _ _, h, _ => by cases h
 | .ref _, h, _ => by cases h
theorem Z9m {t : Ty} (h : t.plain = true) (xs : List t.den) : rowV (xs.map t.vals) = xs.map t.cells := by
 unfold rowV
 rw [List.map_map]
 exact List.map_congr_left fun x _ => ((vals_ok t h x).1).symm
theorem Zba (hC : CxOK P C) (hm : X.m = C.m) (hd : dOK X.n o.dst) {fop y : Operand} {zs : List Operand} {ar : Array Operand} {ts : Array Nat} (ho : o.op = .call { callee := .value fop, args := ar, argTypes := ts }) {f g id sz : Nat} {sf : SFn} (hf : s.ev fop = .fn f []) (har : ar.toList = y :: zs) (hy : s.ev y = .own id sz) (hz : (g = 1000000 ∧ zs = []) ∨ (g ≠ 1000000 ∧ ∃ z, zs = [z] ∧ s.toSt.ev z = .fn g [])) (hso : C.SO f g = some sf) : Tell2 P X o s (Zim C s o.dst id sz sf) := by
 obtain ⟨hE, hpl, hpair⟩ := hC.so f g _ hso
 unfold Zim
 split
 ·rename_i e u xs0 hq
  split
  ·rename_i xs hxs
   obtain ⟨e1, h9⟩ := Ze hxs
   injection e1 with e1
   subst e1
   obtain rfl : xs0 = xs := h9
   split
   ·rename_i hsz
    subst hsz
    have common : ∀ ys, sf.run xs0 = some ys → Z9l P f g sf xs0 ys → (ys.length = List.length xs0 ∧ ∀ j, rowLen s.heap j = rowLen (setH s.heap id (.row e sf.t ys)) j) := fun ys hys hp0 => by
     have hlen : ys.length = List.length xs0 := by
      unfold Z9l at hp0
      split at hp0
      ·have := hp0.len; simpa using this
      ·have := hp0.2.len; simpa using this
     refine ⟨hlen, fun j => ?_⟩
     by_cases hj : j = id
     ·subst hj
      have hid : j < s.heap.length := by rw [Zf] at hq; exact (List.getElem?_eq_some_iff.1 hq).1
      rw [Zb hq, Zb (e := e) (t := sf.t) (xs := ys) (by rw [Zf, setH_eq, List.getElem?_set_self hid])]
      exact hlen.symm
     ·unfold rowLen
      rw [Zf, Zf, setH_eq, List.getElem?_set_ne (by omega)]
    have hq' : s.toSt.heap[id]? = some (.row e sf.t.size (rowV (xs0.map sf.t.vals))) := by rw [TSt.heap_get, hq, Z9m hpl]; rfl
    have hid : id < s.heap.length := by rw [Zf] at hq; exact (List.getElem?_eq_some_iff.1 hq).1
    split
    ·rename_i hcut
     refine ⟨.of _ _ rfl, fun hc K hK => ?_⟩
     obtain ⟨ys, hys⟩ := Option.isSome_iff_exists.1 hc
     rw [hys, Option.getD_some] at hK
     have hp0 := hpair _ ys hys
     obtain ⟨hlen, hrow⟩ := common ys hys hp0
     unfold Z9l at hp0
     rw [hcut] at hp0
     have hp : SortPair P f g sf.t.size (List.map sf.t.vals xs0) (ys.map sf.t.vals) := hp0
     refine opT.of (fun K' hK' => op_sort ho har (by rw [TSt.ev_ok, hf]; rfl) hE hp (fun c hc => ?_) (by rw [TSt.ev_ok, hy]; simp only [SV.toAV]; rw [Zb hq, List.length_map]) hz hq' hd hK') (Zes (ob := .row e sf.t ys) hrow (by rw [Z9m hpl]; exact ObjLe.refl _)) (.refl _) hK
     obtain ⟨x, _, rfl⟩ := List.mem_map.1 hc
     exact (vals_ok sf.t hpl x).2
    ·rename_i c d hcut hdst
     by_cases hmi : C.m ≤ id
     case neg => rw [if_neg hmi]; trivial
     rw [if_pos hmi]
     refine ⟨PureSame.trans (PureSame.of s ⟨s.env, setH s.heap id (.row e sf.t (Option.getD (sf.run xs0) []))⟩ rfl) (PureSame.subAll ⟨s.env, setH s.heap id (.row e sf.t (Option.getD (sf.run xs0) []))⟩ (Z16 id) id (.row e sf.t (List.take (c xs0) (Option.getD (sf.run xs0) [])))), fun hc K hK => ?_⟩
     obtain ⟨ys, hys⟩ := Option.isSome_iff_exists.1 hc
     rw [hys, Option.getD_some] at hK
     have hp0 := hpair _ ys hys
     obtain ⟨hlen, hrow⟩ := common ys hys hp0
     unfold Z9l at hp0
     rw [hcut] at hp0
     obtain ⟨rfl, hp⟩ := hp0
     have hz0 : zs = [] := by
      rcases hz with ⟨_, h⟩ | ⟨h, _⟩
      ·exact h
      ·exact absurd rfl h
     subst hz0
     have hle : c xs0 ≤ ys.length := by have := hp.le; rw [hlen]; simpa using this
     refine op_cut ho har (by rw [TSt.ev_ok, hf]; rfl) hE hp (fun c hc => ?_) (by rw [TSt.ev_ok, hy]; simp only [SV.toAV]; rw [Zb hq, List.length_map]) hq' hd ⟨_, ?_, hK⟩
     ·obtain ⟨x, _, rfl⟩ := List.mem_map.1 hc
      exact (vals_ok sf.t hpl x).2
     ·rw [hdst]
      let s1 : TSt := ⟨s.env, setH s.heap id (.row e sf.t ys)⟩
      have hle1 : StLe ⟨s.toSt.env, s.toSt.heap.set id (.row e sf.t.size (rowV (ys.map sf.t.vals)))⟩ s1.toSt := Zes (ob := .row e sf.t ys) hrow (by rw [Z9m hpl]; exact ObjLe.refl _)
      refine Imp.trans (StLe.put hle1 (.refl _) (some d)).imp (fun a w hr => ?_)
      have hq1 : (St.put s1.toSt (some d) (.own id sf.t.size 0 (c xs0))).heap[id]? = some (.row e sf.t.size (List.map sf.t.cells ys)) := by
       show s1.toSt.heap[id]? = _
       rw [TSt.heap_get]
       show (nth (setH s.heap id (.row e sf.t ys)) id).map _ = _
       rw [Zf, setH_eq, List.getElem?_set_self hid]
       rfl
      have h4 := Rep.takeRow hr (i := d) (len := c xs0) (by simp [St.put, envGet]) hq1 (by rw [List.length_map]; exact hle) (by omega)
      refine h4.weak ?_
      rw [TSt.put_ok]
      have h5 := Z1o (s := s1) (f := Zh id) (g := Z16 id) (id := id) (ob := .row e sf.t (List.take (c xs0) ys)) (oa := .row e sf.t.size ((List.map sf.t.cells ys).take (c xs0))) Z26 (by
       have e2 : (List.map sf.t.cells ys).take (c xs0) = (List.take (c xs0) ys).map sf.t.cells := (List.map_take ..).symm
       rw [e2]; exact ObjLe.refl _)
      have h6 := StLe.put (s := ⟨Z14 (Zh id) s1.toSt.env, (s1.toSt.heap.map (AObj.sub (Zh id))).set id (.row e sf.t.size ((List.map sf.t.cells ys).take (c xs0)))⟩) h5 (x := .own id sf.t.size 0 (c xs0)) (y := (SV.own id sf.t.size).toAV (TSt.subAll s1 (Z16 id) id (.row e sf.t (List.take (c xs0) ys))).heap) (by
       simp only [SV.toAV]
       rw [Zb (e := e) (t := sf.t) (xs := List.take (c xs0) ys) (by rw [Zf]; simp [TSt.subAll, setH_eq, s1, hid])]
       have e4 : (List.take (c xs0) ys).length = min (c xs0) ys.length := List.length_take ..
       rw [e4, Nat.min_eq_left hle]
       exact .refl _) (some d)
      refine ⟨fun i => ?_, h6.2.1, h6.2.2⟩
      have h7 := h6.1 i
      simp only [St.put, envGet] at h7 ⊢
      by_cases hi : i = d
      ·subst hi; simpa using h7
      ·rw [if_neg hi] at h7 ⊢
       simp only [Z14, List.map_cons, envGet]
       rw [if_neg hi]
       exact h7
    ·trivial
   ·trivial
  ·trivial
 ·trivial
theorem sort_ok (hC : CxOK P C) (hm : X.m = C.m) (hd : dOK X.n o.dst) {fop : Operand} {ar : Array Operand} {ts : Array Nat} (ho : o.op = .call { callee := .value fop, args := ar, argTypes := ts }) {id sz : Nat} {sf : SFn} (hx : Z9q C s fop ar.toList = some (id, sz, sf)) : Tell2 P X o s (Zim C s o.dst id sz sf) := by
 unfold Z9q at hx
 split at hx
 ·rename_i f y z hf har
  split at hx
  ·rename_i id' sz' g hy hz
   split at hx
   ·rename_i sf' hso hg
    cases hx
    exact Zba hC hm hd ho hf har hy (.inr ⟨of_decide_eq_false hg, z, rfl, by rw [TSt.ev_ok, hz]; rfl⟩) hso
   ·cases hx
  ·cases hx
 ·rename_i f y hf har
  split at hx
  ·rename_i id' sz' hy
   split at hx
   ·rename_i sf' hso
    cases hx
    exact Zba hC hm hd ho hf har hy (.inl ⟨rfl, rfl⟩) hso
   ·cases hx
  ·cases hx
 ·cases hx
theorem Z44 (hT : Zo P C.T) (hd : dOK X.n o.dst) {t t' : Nat} {x : Operand} (ho : o.op = .convert t t' x) {y : SV} (hy : Z4i C t t' (s.ev x) = some y) : Z5r P X o s (.ok s y) := by
 unfold Z4i at hy
 split at hy
 ·rename_i e b ht ht' hb
  split at hy
  ·rename_i he
   cases hy
   refine ⟨.refl _, fun K hK => opTG.of (s1 := s) (so := s.toSt) (fun K' hK' => Z9u hT ho ht ht' he (by rw [TSt.ev_ok, Z2z hb]) hd hK') (.refl _) (.refl _) hK⟩
  ·cases hy
 ·cases hy
theorem Zhf (hC : CxOK P C) (hm : X.m = C.m) (hd : dOK X.n o.dst) : Tell2 P X o s (exT2 C s o) := by
 have hT := hC.T
 unfold exT2
 split
 ·rename_i e ho; exact .ofC (Zan hT hd ho)
 ·rename_i e y ho; exact .ofC (Zhz hT hd ho)
 ·rename_i t parts ho; exact .ofC (Zai hT hd ho)
 ·rename_i t len parts ho
  split
  ·rename_i htr hdst; trivial
  ·exact .ofC (Z3q hT hd ho)
 ·rename_i t y z ho
  split
  ·rename_i htr hdst; trivial
  ·exact .ofC (Z41 hT hd ho)
 ·rename_i t y z ho
  split
  ·rename_i hy
   split
   ·trivial
   ·trivial
  ·rename_i hy; trivial
  ·refine Zil hT hd (fun h => ?_) ho
   rw [Bool.and_eq_true] at h
   exact Option.isNone_iff_eq_none.1 h.2
 ·rename_i t ho; exact .ofC (Z61 hC hd ho)
 ·rename_i t x k b ho; exact .ofC (Z7v hC hd ho)
 ·rename_i t x k v ho; exact Zbt hC hm hd ho
 ·rename_i t x ho; exact .ofC (Ziq hC hd ho)
 ·rename_i cnd p q ho
  split
  ·rename_i b hb
   intro K h1 h2
   refine op_pick ho (by rw [TSt.ev_ok, Z2l hb]) hd (fun e => ⟨_, ?_, h1 e⟩) (fun e => ⟨_, ?_, h2 e⟩)
   ·rw [TSt.put_ok, TSt.ev_ok]; exact .refl _ _
   ·rw [TSt.put_ok, TSt.ev_ok]; exact .refl _ _
  ·trivial
 ·rename_i args ts ho
  split
  ·rename_i y z t t' ha ht
   have ha' : args = #[y, z] := by rw [← Array.toArray_toList (xs := args), ha]
   have ht' : ts = #[t, t'] := by rw [← Array.toArray_toList (xs := ts), ht]
   subst ha' ht'
   split
   ·rename_i hy hz; trivial
   ·rename_i hy; trivial
   ·exact Zi9 hT hm hd ho
  ·trivial
 ·rename_i fop args ts ho
  split
  ·rename_i hx; exact sort_ok hC hm hd ho hx
  ·exact .ofC (Zdl hC hd ho)
 ·rename_i args ts ho
  split
  ·rename_i x t ha ht
   unfold capT
   split
   ·rename_i hti hx
    refine ⟨.refl _, fun K hK => (opTG.of (s1 := s) (so := s.toSt) (fun K' hK' => Zgd ho ha ht (hT _ _ hti).kind (by rw [TSt.ev_ok, hx]; rfl) hd hK') (.refl _) (.refl _) hK).wp⟩
   ·trivial
  ·trivial
 ·rename_i t x lo hi ho
  split
  ·rename_i hx
   have hx' : s.toSt.ev x = .v (.slice none 0 0) := by
    unfold isNilS at hx
    split at hx
    ·rename_i hx2; rw [TSt.ev_ok, hx2]; rfl
    ·cases hx
   unfold Zbb
   split
   ·rename_i l h _ _ _ _ hl hh hti
    split
    ·rename_i ti he
     have hb := Zi0 hl hh 0
     have key : (bnd2 l h 0).1 → ∀ K : TSt → Prop, K (s.put o.dst (.cst (.slice none 0 0))) → opT P X o K s := fun hc K hK => (opTG.of (s1 := s) (so := s.toSt) (fun K' hK' => Zd8 hT ho hx' hti he hb hc hd hK') (.refl _) (.refl _) hK).wp
     split
     ·exact ⟨.refl _, key trivial⟩
     ·exact ⟨.refl _, fun hc => key hc⟩
     ·exact ⟨.refl _, fun hc => key hc⟩
     ·exact ⟨.refl _, fun hc => key hc⟩
    ·trivial
   ·trivial
  ·exact Zbo hT hd (by rw [ho]; exact Z67)
 ·rename_i t t' x ho
  split
  ·rename_i hx hdt
   have hdt' := of_decide_eq_true hdt
   subst hdt'
   exact Zdk hT hm hd ho hx
  ·split
   ·rename_i y hy; exact .ofC (Z44 hT hd ho hy)
   ·exact Zbo hT hd (by rw [ho]; exact Z67)
 ·rename_i op t y z t' ho
  split
  ·rename_i r hr; exact nil_ok hT hd ho hr
  ·split
   ·rename_i r hr; exact eqs_ok hC hd ho hr
   ·split
    ·rename_i x hx; exact wrap_ok hT hd ho hx
    ·split
     ·rename_i x hx; exact ifc_ok hC hd ho hx
     ·exact Zbo hT hd (by rw [ho]; exact Z67)
 ·exact Zbo hT hd Z67
end
end Go.Proofs.YtplgphblmeceoaaGreatDoor.Eng
set_option linter.unusedVariables false
set_option linter.unusedSimpArgs false
namespace Go.Proofs.YtplgphblmeceoaaGreatDoor.Eng
open Go Go.RowKit
noncomputable def ck {β : Type} (c : Prop) (a : Option β) : Option β := @ite _ c (Classical.propDecidable c) a none
def cb {β : Type} (b : Bool) (x y : Option β) : Option β := match b with
 | true => x
 | false => y
noncomputable def nq {β : Type} (c : Prop) (a b : Option β) : Option β := @ite _ c (Classical.propDecidable c) a (@ite _ (a = b) (Classical.propDecidable _) a none)
def ob {α β : Type} (r : Option α) (k : α → Option β) : Option β := match r with
 | some a => k a
 | none => none
def Z1g {α γ β : Type} (a : α ⊕ γ) (f : α → Option β) (g : γ → Option β) : Option β := match a with
 | .inl x => f x
 | .inr y => g y
theorem Z1u {β : Type} {c : Prop} {a : Option β} {r : β} (h : ck c a = some r) : c ∧ a = some r := by
 unfold ck at h
 by_cases hc : c
 ·rw [if_pos hc] at h; exact ⟨hc, h⟩
 ·rw [if_neg hc] at h; cases h
theorem Z1 {β : Type} {c : Prop} {a : Option β} (h : c) : ck c a = a := by unfold ck; rw [if_pos h]
theorem nq_some {β : Type} {c : Prop} {a b : Option β} {r : β} (h : nq c a b = some r) : a = some r ∧ (¬ c → b = some r) := by
 unfold nq at h
 by_cases hc : c
 ·rw [if_pos hc] at h; exact ⟨h, fun h' => absurd hc h'⟩
 ·rw [if_neg hc] at h
  by_cases he : a = b
  ·rw [if_pos he] at h; exact ⟨h, fun _ => he ▸ h⟩
  ·rw [if_neg he] at h; cases h
theorem nq_same {β : Type} {c : Prop} {a : Option β} : nq c a a = a := by
 unfold nq
 by_cases hc : c
 ·rw [if_pos hc]
 ·rw [if_neg hc, if_pos rfl]
theorem Z3i {α β : Type} {r : Option α} {k : α → Option β} {x : β} (h : ob r k = some x) : ∃ a, r = some a ∧ k a = some x := by
 cases r with
 | none => cases h
 | some a => exact ⟨a, rfl, h⟩
def Z4n {X R : Type} (f : X → Option (X ⊕ R)) : Nat → X → Option R
 | 0, _ => none
 | n + 1, x => match f x with
  | none => none
  | some (.inl x') => Z4n f n x'
  | some (.inr r) => some r
noncomputable def Zj {X R : Type} (f : X → Option (X ⊕ R)) (x : X) : Option R := by
 classical exact if h : ∃ n r, Z4n f n x = some r then some (Classical.choose (Classical.choose_spec h)) else none
theorem Z62 {X R : Type} {f : X → Option (X ⊕ R)} {r : R} : ∀ {n m : Nat} {x : X}, Z4n f n x = some r → n ≤ m → Z4n f m x = some r
 | 0, _, _, h, _ => by cases h
 | n + 1, 0, _, _, h => by omega
 | n + 1, m + 1, x, h, hle => by
  simp only [Z4n] at h ⊢
  cases hf : f x with
  | none => rw [hf] at h; cases h
  | some y =>
   rw [hf] at h
   cases y with
   | inl x' => exact Z62 (n := n) (m := m) (by simpa using h) (by omega)
   | inr r' => simpa using h
theorem Z4d {X R : Type} {f : X → Option (X ⊕ R)} {x : X} {r : R} (h : Zj f x = some r) : ∃ n, Z4n f n x = some r := by
 unfold Zj at h
 split at h
 ·rename_i hex
  cases h
  exact ⟨_, Classical.choose_spec (Classical.choose_spec hex)⟩
 ·cases h
theorem Z9y {X R : Type} {f : X → Option (X ⊕ R)} {x : X} {r : R} {n : Nat} (h : Z4n f n x = some r) : Zj f x = some r := by
 have hex : ∃ n r, Z4n f n x = some r := ⟨n, r, h⟩
 unfold Zj
 rw [dif_pos hex]
 have h2 := Classical.choose_spec (Classical.choose_spec hex)
 have h3 := Z62 h2 (Nat.le_max_left _ n)
 have h4 := Z62 h (Nat.le_max_right (Classical.choose hex) n)
 rw [h3] at h4
 exact h4
theorem Z98 {X R : Type} {f : X → Option (X ⊕ R)} {x : X} : Zj f x = match f x with
  | none => none
  | some (.inl x') => Zj f x'
  | some (.inr r) => some r := by
 cases hf : f x with
 | none =>
  cases h : Zj f x with
  | none => rfl
  | some r =>
   obtain ⟨n, hn⟩ := Z4d h
   cases n with
   | zero => cases hn
   | succ n => simp [Z4n, hf] at hn
 | some y =>
  cases y with
  | inr r => exact Z9y (n := 1) (by simp [Z4n, hf])
  | inl x' =>
   show Zj f x = Zj f x'
   cases h : Zj f x' with
   | none =>
    cases h2 : Zj f x with
    | none => rfl
    | some r =>
     obtain ⟨n, hn⟩ := Z4d h2
     cases n with
     | zero => cases hn
     | succ n =>
      simp only [Z4n, hf] at hn
      rw [Z9y hn] at h
      cases h
   | some r =>
    obtain ⟨n, hn⟩ := Z4d h
    exact Z9y (n := n + 1) (by simp only [Z4n, hf]; exact hn)
end Go.Proofs.YtplgphblmeceoaaGreatDoor.Eng
set_option linter.unusedVariables false
set_option linter.unusedSimpArgs false
namespace Go.Proofs.YtplgphblmeceoaaGreatDoor.Eng
open Go Go.RowKit
inductive PA where
 | nil (d : Nat) (e : TypeId) (t : Ty)
 | nilT (d : Nat) (e ei : TypeId) (t : Ty)
 | frz (d : Nat)
 | nilB (b j : Nat) (e : TypeId) (t : Ty)
def PA.slot : PA → Option Nat
 | .nil d _ _ => some d
 | .nilT d _ _ _ => some d
 | .frz _ => none
 | .nilB _ _ _ _ => none
def preF (TY : Nat → Option Ty) : List PA → TSt → Option TSt
 | [], s => some s
 | .nil d e t :: r, s => (match tget s.env d with
  | .cst (.slice none 0 0) => preF TY r ((s.push (.row e t [])).put (some d) (.own s.heap.length t.size))
  | _ => none)
 | .nilT d e ei t :: r, s => (match tget s.env d with
  | .cst (.slice none 0 0) => preF TY r ((s.push (.tree e ei t none [])).put (some d) (.nm s.heap.length [0]))
  | _ => none)
 | .frz d :: r, s => preF TY r (frzFor TY s [tget s.env d])
 | .nilB b j e t :: r, s => (match nth s.heap b with
  | some (.box eb cs) => (match nth cs j with
   | some (.cst (.slice none 0 0)) => preF TY r ⟨s.env, setH (s.heap ++ [.row e t []]) b (.box eb (cs.set j (.own s.heap.length t.size)))⟩
   | _ => none)
  | _ => none)
noncomputable def renF {β : Type} (m : Nat) : List (Nat × SK) → TSt → (TSt → Option β) → Option β
 | [], s, k => k s
 | (i, .que _ _) :: r, s, k => (match tget s.env i with
  | .cut id sz off len => (match nth s.heap id with
   | some (.row e t xs) => (match decide (sz = t.size) && Nat.ble m id with
    | true => ck (off + len = List.length xs) (renF m r ((s.subAll (Z16 id) id (.row e t (List.drop off xs))).put (some i) (.own id sz)) k)
    | false => none)
   | _ => none)
  | _ => renF m r s k)
 | (i, .val _) :: r, s, k => renF m r (frzFor (fun _ => none) s [tget s.env i]) k
 | (_, .rp _) :: r, s, k => renF m r s k
 | (_, .own _ _) :: r, s, k => renF m r s k
 | (_, .ptr _ _) :: r, s, k => renF m r s k
 | (_, .nm _ _) :: r, s, k => renF m r s k
 | (_, .fn _) :: r, s, k => renF m r s k
 | (_, .nil) :: r, s, k => renF m r s k
 | (_, .inn _) :: r, s, k => renF m r s k
 | (_, .agg _) :: r, s, k => renF m r s k
 | (_, .clo _ _) :: r, s, k => renF m r s k
section
variable {P : Program} {X : Ctx} {σ : Nat → Option Blk} {F : Nat → Prop} {a : Act} {w : World}
theorem Rep.dropRow {s : St} (hr : Rep X s a w) {i id e sz off len : Nat} {es : List (List AV)} (hi : envGet s.env i = .own id sz off len) (hq : s.heap[id]? = some (.row e sz es)) (hf : off + len = es.length) (hm : X.m ≤ id) :
  Rep X ⟨(i, .own id sz 0 len) :: Z14 (Zh id) s.env, (s.heap.map (AObj.sub (Zh id))).set id (.row e sz (es.drop off))⟩ a w := by
 obtain ⟨σ, F, hr⟩ := hr
 have hid : id < s.heap.length := (List.getElem?_eq_some_iff.1 hq).1
 have hob := hr.heap.obj id _ hq
 have hv := hi ▸ hr.env i
 have hRF : ∀ x y, RepF F w x y → RepF F w x y := fun x y h => h
 have fin : ∀ (k : Option Blk), (∀ q g, k = some q → q.has g → g < w.heap.size ∧ ¬ F g ∧ (hasB σ id g ∨ w.heap.size ≤ g)) → RepO (upd σ id k) F w id (.row e sz (es.drop off)) → RepV (upd σ id k) F w (.own id sz 0 len) (a.tmps.getD i undef) →
   Rep X ⟨(i, .own id sz 0 len) :: Z14 (Zh id) s.env, (s.heap.map (AObj.sub (Zh id))).set id (.row e sz (es.drop off))⟩ a w := by
  intro k hk hO hV
  have h1 := hr.change (w' := w) (F' := F) (f := Zh id) hid (k := k) rfl rfl rfl (Nat.le_refl _) (fun _ _ _ => rfl) (fun _ h => h) (fun _ h => .inl h) hk (Z5f hRF) (Z5e hRF) Z3j (fun h => absurd h (Nat.not_lt.2 hm)) hO
  refine ⟨_, F, h1.defers, h1.size, fun j => ?_, h1.heap, h1.keep, h1.own, h1.fnew, h1.stab, h1.hm⟩
  simp only [envGet]
  split
  ·rename_i e; subst e; exact hV
  ·exact h1.env j
 rcases RepV.ownv hv with ⟨h1, rfl, rfl, h2⟩ | ⟨g, b, c, n, h1, hn, hc, h2⟩
 ·refine fin (some .nil) (fun q g h hg => by cases h; exact hg.elim) (.inl ⟨Z7 _ _ _, ?_⟩) ?_
  ·exact List.eq_nil_of_length_eq_zero (by rw [List.length_drop]; omega)
  ·rw [h2]; exact .own0 _ _ (Z7 _ _ _)
 ·rcases hob with ⟨h3, _⟩ | ⟨g', b', c', cur, h3, h4, h5, h6, h7, h8, h9⟩
  ·rw [h1] at h3; cases h3
  ·rw [h1] at h3
   injection h3 with h3
   injection h3 with e1 e2 e3 e4
   subst e1 e2 e3
   have hlt := hr.heap.lt _ _ (.at h1)
   refine fin (some (.at_ g (b + off) (c - off) (n - off))) (fun q1 g1 h hg1 => ?_) (.inr ⟨g, b + off, c - off, cur, ?_, ?_, by omega, h6, ?_, fun cs hcs => h8 cs (List.mem_of_mem_drop hcs), fun j cs q x hj hx => ?_⟩) ?_
   ·cases h
    have e1 : g1 = g := hg1
    subst e1
    exact ⟨hlt.1, hlt.2, .inl (.at h1)⟩
   ·rw [Z7]; simp; omega
   ·simp; omega
   ·rw [h7]; congr 1; omega
   ·rw [List.getElem?_drop] at hj
    obtain ⟨u, h10, h11, h12⟩ := h9 (off + j) cs q x hj hx
    exact ⟨u, by rw [← h10, Nat.add_assoc], h11, h12⟩
   ·rcases h2 with h2 | ⟨h2, h3, h10, A, h11⟩
    ·rw [h2]
     have := RepV.own (σ := upd σ id (some (.at_ g (b + off) (c - off) (n - off)))) (F := F) (w := w) id sz 0 len g (b + off) (c - off) (n - off) (Z7 _ _ _) (by omega) (by omega)
     simpa using this
    ·subst h2
     rw [h11]
     exact .ownz _ _ _ g (b + off) (c - off) (n - off) A (Z7 _ _ _) (by omega) (by omega)
def WFr (W : List Nat) (s s' : TSt) : Prop := ∀ i, i ∉ W → (tget s.env i = .any → tget s'.env i = .any) ∧ (∀ t x, tget s.env i = .val t x → tget s'.env i = .any ∨ tget s'.env i = .val t x) ∧ (∀ t x, tget s.env i = .rp t x → tget s'.env i = .any ∨ tget s'.env i = .rp t x) ∧ (∀ g, tget s.env i = .fn g [] → tget s'.env i = .any ∨ tget s'.env i = .fn g [])
theorem WFr.refl (W : List Nat) (s : TSt) : WFr W s s := fun i _ => ⟨fun h => h, fun t x h => .inr h, fun t x h => .inr h, fun g h => .inr h⟩
theorem WFr.trans {W W' W'' : List Nat} {s1 s2 s3 : TSt} (h : WFr W s1 s2) (k : WFr W' s2 s3) (h1 : ∀ i, i ∉ W'' → i ∉ W) (h2 : ∀ i, i ∉ W'' → i ∉ W') : WFr W'' s1 s3 := by
 intro i hi
 obtain ⟨a1, a2, a3, a4⟩ := h i (h1 i hi)
 obtain ⟨b1, b2, b3, b4⟩ := k i (h2 i hi)
 refine ⟨fun e => b1 (a1 e), fun t x e => ?_, fun t x e => ?_, fun g e => ?_⟩
 ·rcases a2 t x e with e | e
  ·exact .inl (b1 e)
  ·exact b2 t x e
 ·rcases a3 t x e with e | e
  ·exact .inl (b1 e)
  ·exact b3 t x e
 ·rcases a4 g e with e | e
  ·exact .inl (b1 e)
  ·exact b4 g e
theorem WFr.mono {W W' : List Nat} {s1 s2 : TSt} (h : WFr W s1 s2) (h1 : ∀ i, i ∉ W' → i ∉ W) : WFr W' s1 s2 := fun i hi => h i (h1 i hi)
theorem WFr.put {W : List Nat} {s s' : TSt} (h : WFr W s s') {d : Option Nat} (hd : ∀ i, d = some i → i ∈ W) (x : SV) : WFr W s (s'.put d x) := by
 intro i hi
 cases d with
 | none => exact h i hi
 | some d =>
  have hne : ¬ i = d := fun e => hi (e ▸ hd d rfl)
  simp only [TSt.put, tget]
  rw [if_neg hne]
  exact h i hi
theorem WFr.subAll (W : List Nat) (s : TSt) (g : SV → SV) (id : Nat) (ob : TObj) : WFr W s (s.subAll g id ob) := by
 intro i _
 simp only [TSt.subAll]
 rw [Z3c (SV.sub g) rfl]
 exact ⟨fun h => by rw [h]; rfl, fun t x h => .inr (by rw [h]; rfl), fun t x h => .inr (by rw [h]; rfl), fun g h => .inr (by rw [h]; rfl)⟩
theorem WFr.freezeT (W : List Nat) (TY : Nat → Option Ty) (s : TSt) (id : Nat) : WFr W s (freezeT TY s id) := by
 unfold Eng.freezeT
 split
 ·exact WFr.subAll _ _ _ _ _
 ·exact WFr.subAll _ _ _ _ _
 ·split
  ·split
   ·exact WFr.subAll _ _ _ _ _
   ·exact WFr.refl _ _
  ·exact WFr.refl _ _
 ·exact WFr.refl _ _
theorem WFr.freezeAll (W : List Nat) (TY : Nat → Option Ty) : ∀ (ids : List Nat) (s : TSt), WFr W s (Z35 TY s ids)
 | [], s => WFr.refl _ _
 | id :: r, s => (WFr.freezeT W TY s id).trans (WFr.freezeAll W TY r _) (fun _ h => h) (fun _ h => h)
theorem _root_.Go.Proofs.YtplgphblmeceoaaGreatDoor.Eng.RepAt.nilCell {s : St} (hr : RepAt X σ F s a w) {b j eb : Nat} {cs : List AV} (e sz : Nat) (hb : s.heap[b]? = some (.box eb cs)) (hj : cs[j]? = some (.v (.slice none 0 0))) :
  RepAt X (upd σ s.heap.length (some .nil)) F ⟨s.env, (s.heap ++ [AObj.row e sz []]).set b (.box eb (cs.set j (.own s.heap.length sz 0 0)))⟩ a w := by
 have h1 := hr.newNil e sz
 have hbl : b < s.heap.length := (List.getElem?_eq_some_iff.1 hb).1
 refine ⟨h1.defers, h1.size, h1.env, ⟨fun id o ho => ?_, fun id hid => h1.heap.out id (by simpa using hid), h1.heap.inj, h1.heap.lt, h1.heap.flt, h1.heap.lay⟩, h1.keep, h1.own, h1.fnew, h1.stab, by have := h1.hm; simpa using this⟩
 simp only at ho
 rw [List.getElem?_set] at ho
 split at ho
 ·rename_i e0
  subst e0
  split at ho
  ·cases ho
   obtain ⟨g, vs, k1, k2, k3, k4, k5⟩ := h1.heap.obj b (.box eb cs) (by simp only [List.getElem?_append_left hbl, hb])
   refine ⟨g, vs, k1, k2, by simpa using k3, k4, fun j' x u hx hu => ?_⟩
   rw [List.getElem?_set] at hx
   split at hx
   ·rename_i e1
    subst e1
    split at hx
    ·cases hx
     have h2 := (k5 j _ u hj hu).val
     subst h2
     exact .own0 _ _ (Z7 _ _ _)
    ·cases hx
   ·exact k5 j' x u hx hu
  ·cases ho
 ·exact h1.heap.obj id o ho
theorem Zd7 (TY : Nat → Option Ty) : ∀ (l : List PA) (s s' : TSt), preF TY l s = some s' → Imp X s.toSt s'.toSt := by
 intro l
 induction l with
 | nil => intro s s' h; cases h; exact .refl _ _
 | cons p r ih =>
  intro s s' h
  cases p with
  | nil d e t =>
   simp only [preF] at h
   split at h
   ·rename_i hd
    refine Imp.trans ?_ (ih _ _ h)
    intro a w hr
    have hw : s.wf := by obtain ⟨σ, F, hr'⟩ := hr; exact Zef hr'
    have hlen : s.toSt.heap.length = s.heap.length := by simp [TSt.toSt]
    have h1 := Rep.nilOwn (d := d) (e := e) (sz := t.size) (by simp only [TSt.toSt, Zl]; rw [hd]; rfl) hr
    have h2 := Z5c hw (ob := .row e t []) (oa := .row e t.size []) (fun e' cs h => by cases h) ⟨rfl, rfl, rfl, fun i cs ds a b => by simp at a⟩
    refine h1.weak ?_
    rw [TSt.put_ok]
    refine StLe.put (s := ⟨s.toSt.env, s.toSt.heap ++ [.row e t.size []]⟩) h2 ?_ (some d)
    simp only [SV.toAV, hlen]
    rw [Zb (e := e) (t := t) (xs := []) (by rw [Zf]; simp [TSt.push])]
    exact .refl _
   ·cases h
  | nilT d e ei t =>
   simp only [preF] at h
   split at h
   ·rename_i hd
    refine Imp.trans ?_ (ih _ _ h)
    intro a w hr
    have hw : s.wf := by obtain ⟨σ, F, hr'⟩ := hr; exact Zef hr'
    have hlen : s.toSt.heap.length = s.heap.length := by simp [TSt.toSt]
    obtain ⟨σ, F, hr0⟩ := hr
    obtain ⟨σ', h1⟩ := hr0.newTree e ei t.size (d := d) (by simp only [TSt.toSt, Zl]; rw [hd]; rfl)
    have h2 := Z5c hw (ob := .tree e ei t none []) (oa := .tree e ei t.size none []) (fun e' cs h => by cases h) (ObjLe.refl _)
    refine Rep.weak ?_ ⟨σ', F, h1⟩
    rw [TSt.put_ok, hlen]
    exact StLe.put (s := ⟨s.toSt.env, s.toSt.heap ++ [.tree e ei t.size none []]⟩) h2 (.refl _) (some d)
   ·cases h
  | frz d =>
   simp only [preF] at h
   exact Imp.trans (Z1s TY _ _).1 (ih _ _ h)
  | nilB b j e t =>
   simp only [preF] at h
   split at h
   ·rename_i eb cs hq
    split at h
    ·rename_i hj
     refine Imp.trans ?_ (ih _ _ h)
     intro a w hr
     have hw : s.wf := by obtain ⟨σ, F, hr'⟩ := hr; exact Zef hr'
     have hlen : s.toSt.heap.length = s.heap.length := by simp [TSt.toSt]
     have hbl : b < s.heap.length := by rw [Zf] at hq; exact (List.getElem?_eq_some_iff.1 hq).1
     obtain ⟨σ, F, hr0⟩ := hr
     have hb' : s.toSt.heap[b]? = some (.box eb (SV.toAVL s.heap cs)) := by rw [TSt.heap_get, hq]; rfl
     have hj' : (SV.toAVL s.heap cs)[j]? = some (.v (.slice none 0 0)) := by
      rw [Zf] at hj
      rw [SV.toAVL_eq, List.getElem?_map, hj]; rfl
     have h1 := hr0.nilCell e t.size hb' hj'
     obtain ⟨e1, e2⟩ := Z9o hw (.row e t []) (fun e' cs h => by cases h)
     have hq1 : nth (s.heap ++ [TObj.row e t []]) b = some (.box eb cs) := by
      rw [Zf] at hq ⊢
      rw [List.getElem?_append_left hbl]; exact hq
     have hb1 : (TSt.toSt ⟨s.env, s.heap ++ [TObj.row e t []]⟩).heap[b]? = some (.box eb (SV.toAVL (s.heap ++ [TObj.row e t []]) cs)) := by
      rw [TSt.heap_get]
      show (nth (s.heap ++ [TObj.row e t []]) b).map _ = _
      rw [hq1]; rfl
     have hcs : SV.toAVL (s.heap ++ [TObj.row e t []]) cs = SV.toAVL s.heap cs := by
      rw [e1, List.getElem?_append_left (by rw [hlen]; exact hbl), hb'] at hb1
      have := Option.some.inj hb1
      injection this with _ h2
      exact h2.symm
     have h3 := Zes (s := ⟨s.env, s.heap ++ [TObj.row e t []]⟩) (id := b) (ob := .box eb (cs.set j (.own s.heap.length t.size))) (oa := .box eb ((SV.toAVL s.heap cs).set j (.own s.toSt.heap.length t.size 0 0)))
      (Z91 hq1) (by
       have : (TObj.box eb (cs.set j (.own s.heap.length t.size))).toObj (s.heap ++ [TObj.row e t []]) = .box eb ((SV.toAVL s.heap cs).set j (.own s.toSt.heap.length t.size 0 0)) := by
        simp only [TObj.toObj, SV.toAVL_eq, List.map_set]
        rw [SV.toAVL_eq, SV.toAVL_eq] at hcs
        rw [hcs, hlen]
        congr 2
        simp only [SV.toAV]
        rw [Zb (e := e) (t := t) (xs := []) (by rw [Zf]; simp)]
        rfl
       rw [this]; exact ObjLe.refl _)
     refine Rep.weak ?_ ⟨_, F, h1⟩
     obtain ⟨p1, p2, p3⟩ := h3
     rw [e1] at p2 p3
     exact ⟨fun i => by have := p1 i; rw [e2] at this; exact this, p2, p3⟩
    ·cases h
   ·cases h
theorem Zgb (W : List Nat) (TY : Nat → Option Ty) : ∀ (l : List PA) (s s' : TSt), preF TY l s = some s' → (∀ p ∈ l, ∀ d, p.slot = some d → d ∈ W) → WFr W s s' := by
 intro l
 induction l with
 | nil => intro s s' h _; cases h; exact WFr.refl _ _
 | cons p r ih =>
  intro s s' h hW
  cases p with
  | nil d e t =>
   simp only [preF] at h
   split at h
   ·refine WFr.trans ?_ (ih _ _ h (fun p hp => hW p (List.mem_cons_of_mem _ hp))) (fun _ h => h) (fun _ h => h)
    exact WFr.put (d := some d) (fun i _ => ⟨fun h => h, fun t x h => .inr h, fun t x h => .inr h, fun g h => .inr h⟩) (fun i hi => by cases hi; exact hW _ (List.mem_cons_self ..) _ rfl) _
   ·cases h
  | nilT d e ei t =>
   simp only [preF] at h
   split at h
   ·refine WFr.trans ?_ (ih _ _ h (fun p hp => hW p (List.mem_cons_of_mem _ hp))) (fun _ h => h) (fun _ h => h)
    exact WFr.put (d := some d) (fun i _ => ⟨fun h => h, fun t x h => .inr h, fun t x h => .inr h, fun g h => .inr h⟩) (fun i hi => by cases hi; exact hW _ (List.mem_cons_self ..) _ rfl) _
   ·cases h
  | frz d =>
   simp only [preF] at h
   exact WFr.trans (WFr.freezeAll W TY _ _) (ih _ _ h (fun p hp => hW p (List.mem_cons_of_mem _ hp))) (fun _ h => h) (fun _ h => h)
  | nilB b j e t =>
   simp only [preF] at h
   split at h
   ·split at h
    ·refine WFr.trans (W := W) (W' := W) ?_ (ih _ _ h (fun p hp => hW p (List.mem_cons_of_mem _ hp))) (fun _ h => h) (fun _ h => h)
     exact fun i _ => ⟨fun h => h, fun t x h => .inr h, fun t x h => .inr h, fun g h => .inr h⟩
    ·cases h
   ·cases h
def PSx (W : List Nat) (s s' : TSt) : Prop := ∀ i, i ∉ W → (tget s.env i = .any → tget s'.env i = .any) ∧ (∀ t (x : t.den), tget s.env i = .val t x → tget s'.env i = .val t x) ∧ (∀ t (x : t.den), tget s.env i = .rp t x → tget s'.env i = .rp t x) ∧ (∀ g, tget s.env i = .fn g [] → tget s'.env i = .fn g [])
theorem PSx.refl (W : List Nat) (s : TSt) : PSx W s s := fun _ _ => ⟨fun h => h, fun _ _ h => h, fun _ _ h => h, fun _ h => h⟩
theorem PSx.mono {W W' : List Nat} {s1 s2 : TSt} (h : PSx W s1 s2) (h1 : ∀ i, i ∉ W' → i ∉ W) : PSx W' s1 s2 := fun i hi => h i (h1 i hi)
theorem PSx.fr {W : List Nat} {s1 s2 : TSt} (h : PSx W s1 s2) : WFr W s1 s2 := fun i hi => ⟨(h i hi).1, fun t x hx => .inr ((h i hi).2.1 t x hx), fun t x hx => .inr ((h i hi).2.2.1 t x hx), fun g hx => .inr ((h i hi).2.2.2 g hx)⟩
theorem Z5y {β : Type} {m : Nat} (hm : X.m = m) : ∀ (l : List (Nat × SK)) (s : TSt) (k : TSt → Option β) (r : β), renF m l s k = some r → ∃ s', k s' = some r ∧ Imp X s.toSt s'.toSt ∧ PureSame s s' := by
 intro l
 induction l with
 | nil => exact fun s k r h => ⟨s, h, .refl _ _, PureSame.refl _⟩
 | cons p l ih =>
  obtain ⟨i, sk⟩ := p
  have next : ∀ (s : TSt) (k : TSt → Option β) (r : β), renF m l s k = some r → ∃ s', k s' = some r ∧ Imp X s.toSt s'.toSt ∧ PureSame s s' := fun s k r h => by
   obtain ⟨s', h1, h2, h3⟩ := ih s k r h
   exact ⟨s', h1, h2, h3⟩
  intro s k r h
  cases sk with
  | que k0 sz0 =>
   simp only [renF] at h
   split at h
   ·rename_i id sz off len hi
    split at h
    ·rename_i e t xs hq
     split at h
     ·rename_i hd
      rw [Bool.and_eq_true] at hd
      obtain ⟨hd, hmi⟩ := hd
      have hmi := Nat.le_of_ble_eq_true hmi
      obtain rfl := of_decide_eq_true hd
      obtain ⟨hc, h⟩ := Z1u h
      obtain ⟨s', h1, h2, h3⟩ := ih _ k r h
      refine ⟨s', h1, Imp.trans (fun a w hr => ?_) h2, ?_⟩
      ·have hq' : s.toSt.heap[id]? = some (.row e t.size (List.map t.cells xs)) := by rw [TSt.heap_get, hq]; rfl
       have h4 := Rep.dropRow hr (i := i) (off := off) (len := len) (by simp only [TSt.toSt, Zl]; rw [hi]; rfl) hq' (by rw [Z5d (u := t) xs]; exact hc) (by omega)
       refine h4.weak ?_
       rw [TSt.put_ok]
       have h5 := Z1o (s := s) (f := Zh id) (g := Z16 id) (id := id) (ob := .row e t (List.drop off xs)) (oa := .row e t.size ((List.map t.cells xs).drop off)) Z26 (by
        have e2 : (List.map t.cells xs).drop off = (List.drop off xs).map t.cells := (List.map_drop ..).symm
        rw [e2]; exact ObjLe.refl _)
       refine StLe.put (s := ⟨Z14 (Zh id) s.toSt.env, (s.toSt.heap.map (AObj.sub (Zh id))).set id (.row e t.size ((List.map t.cells xs).drop off))⟩) h5 ?_ (some i)
       have hid : id < s.heap.length := by rw [Zf] at hq; exact (List.getElem?_eq_some_iff.1 hq).1
       simp only [SV.toAV]
       rw [Zb (e := e) (t := t) (xs := List.drop off xs) (by rw [Zf]; simp [TSt.subAll, setH_eq, hid])]
       have e3 : (List.drop off xs).length = len := by
        have e4 : (List.drop off xs).length = List.length xs - off := List.length_drop ..
        rw [e4]; omega
       rw [e3]
       exact .refl _
      ·intro j
       have h5 := PureSame.subAll s (Z16 id) id (.row e t (List.drop off xs)) j
       have h6 := h3 j
       by_cases hji : j = i
       ·subst hji
        refine ⟨fun h => ?_, fun t x h => ?_, fun t x h => ?_, fun g h => ?_⟩ <;> rw [hi] at h <;> cases h
       ·have h7 : tget ((s.subAll (Z16 id) id (.row e t (List.drop off xs))).put (some i) (.own id t.size)).env j = tget (s.subAll (Z16 id) id (.row e t (List.drop off xs))).env j := by
         simp only [TSt.put, tget]; rw [if_neg hji]
        rw [h7] at h6
        exact ⟨fun h => h6.1 (h5.1 h), fun t x h => h6.2.1 t x (h5.2.1 t x h), fun t x h => h6.2.2.1 t x (h5.2.2.1 t x h), fun g h => h6.2.2.2 g (h5.2.2.2 g h)⟩
     ·cases h
    ·cases h
   ·exact next _ _ _ h
  | val t =>
   obtain ⟨s', h1, h2, h3⟩ := ih _ k r h
   have hf := Z1s (X := X) (fun _ => none) (idsIn s.heap (SV.ids0L [tget s.env i])) s
   exact ⟨s', h1, hf.1.trans h2, hf.2.trans h3⟩
  | rp t => exact next _ _ _ h
  | own k0 sz0 => exact next _ _ _ h
  | ptr k0 sz0 => exact next _ _ _ h
  | nm k0 sz0 => exact next _ _ _ h
  | fn g => exact next _ _ _ h
  | agg cs => exact next _ _ _ h
  | nil => exact next _ _ _ h
  | inn k0 => exact next _ _ _ h
  | clo f cs => exact next _ _ _ h
end
end Go.Proofs.YtplgphblmeceoaaGreatDoor.Eng
set_option linter.unusedVariables false
set_option linter.unusedSimpArgs false
namespace Go.Proofs.YtplgphblmeceoaaGreatDoor.Eng
open Go Go.RowKit
section
variable {β : Type}
noncomputable def useR (s : TSt) (d : Option Nat) (K : TSt → Option β) : R2 → Option β
 | .bad => none
 | .ok s' x => K (s'.put d x)
 | .cond c s' x => ck c (K (s'.put d x))
 | .call ts r s' => ob r fun y => K (s'.put d (Zcz ts y))
 | .callO ts os r s' => ob r fun y => K ((s'.pushL (ownObjs ts os y)).put d (Z8x s'.heap.length ts os y))
 | .pick b x y => cb b (K (s.put d x)) (K (s.put d y))
 | .nq c b => nq c (K (s.put d (.val .bool b))) (K (s.put d (.val .bool (!b))))
def dB (n : Nat) : Option Nat → Bool
 | some d => decide (d < n)
 | none => true
def gd (want b : Bool) (x y : Option β) : Option β := match want with
 | true => cb b x y
 | false => cb b y x
noncomputable def Z6p (C : Cx) (o : Oper) (K : TSt → Option β) (s : TSt) : Option β := match dB C.n o.dst with
 | true => useR s o.dst K (exT2 C s o)
 | false => none
def undefS : SV := .cst (.tuple #[])
def isUndef : SV → Bool
 | .cst v => (match v with | .tuple a => decide (a.size = 0) | _ => false)
 | _ => false
noncomputable def Z1y (C : Cx) (ops : List Oper) (o : Oper) (A K : TSt → Option β) (s : TSt) : Option β := match o.guard with
 | none => A s
 | some (j, want) => (match nthDst ops j with
  | some d => (match isUndef (tget s.env d), decide (d < C.n) && dB C.n o.dst with
   | true, true => K (s.put o.dst undefS)
   | false, true => (match (tget s.env d).boo with
    | some b => gd want b (A (s.put (some d) (.cst (.bool want)))) (K ((s.put (some d) (.cst (.bool (!want)))).put o.dst undefS))
    | none => none)
   | _, _ => none)
  | none => none)
noncomputable def Z2k (C : Cx) (ops : List Oper) : List Oper → (TSt → Option β) → TSt → Option β
 | [], K, s => K s
 | o :: r, K, s => Z1y C ops o (Z6p C o (Z2k C ops r K)) (Z2k C ops r K) s
noncomputable def Z2j (C : Cx) (f : Bool) (o : Oper) (K : TSt → Option β) (s : TSt) : Option β := match dB C.n o.dst, f with
 | true, true => (match o.op with
  | .pick c p q => (match (s.ev c).boo with
   | some b => cb b (K (s.put o.dst (s.ev p))) (K (s.put o.dst (s.ev q)))
   | none => none)
  | .build t parts => (match Z8d C s t (parts.toList.map fun q => (q.1, s.ev q.2)) with
   | .ok _ x => K (s.put o.dst x)
   | _ => none)
  | op => useR s o.dst K (of1 s (exT1 C.T s op)))
 | true, false => (match o.op with
  | .call { callee := .value fop, args := args, .. } => useR s o.dst K (Zju C s fop args.toList)
  | .alloc e => useR s o.dst K (Zea C s e)
  | .box e y => useR s o.dst K (boxT C s e (inFZ C o.dst) (s.ev y))
  | .build t parts => useR s o.dst K (Z8d C s t (parts.toList.map fun q => (q.1, s.ev q.2)))
  | .buildSlice t len parts => useR s o.dst K (Z3r C s t len parts.toList)
  | .makeSlice t y z => useR s o.dst K (Z4c C s t (sameOp y z) (s.ev y))
  | .makeMap t none => useR s o.dst K (Z73 C s t)
  | .lookup t x k b => useR s o.dst K (Z9z C s t (s.ev x) (s.ev k) b)
  | .convert t t' x => (match Z4i C t t' (s.ev x) with
   | some y => useR s o.dst K (.ok s y)
   | none => none)
  | _ => none)
 | false, _ => none
noncomputable def Z21 (C : Cx) (ops : List Oper) (tail : TSt → Option β) : List (Nat × Bool) → TSt → Option β
 | [], s => tail s
 | (i, f) :: r, s => (match nthOp ops i with
  | some o => Z1y C ops o (Z2j C f o (Z21 C ops tail r)) (Z21 C ops tail r) s
  | none => none)
noncomputable def both (a b : Option β) : Option β := @ite _ (a = b) (Classical.propDecidable _) a none
def swpN (L i : Nat) : Nat := match decide (i = L), decide (i = L + 1) with
 | true, _ => L + 1
 | _, true => L
 | _, _ => i
def swpS (L : Nat) : SV → SV
 | .own i sz => .own (swpN L i) sz
 | .cut i sz off len => .cut (swpN L i) sz off len
 | .ptr i k sz j => .ptr (swpN L i) k sz j
 | .nm i k => .nm (swpN L i) k
 | x => x
def Z8l {α : Type} : List α → Nat → List α
 | a :: b :: r, 0 => b :: a :: r
 | a :: r, k + 1 => a :: Z8l r k
 | l, _ => l
def TSt.swap (s : TSt) (L : Nat) : TSt := ⟨s.env.map fun p => (p.1, p.2.sub (swpS L)), Z8l (s.heap.map (TObj.sub (swpS L))) L⟩
noncomputable def Zik (m L : Nat) (k : TSt → Option β) (s : TSt) : Option β := match Nat.ble (L + 2) s.heap.length && Nat.ble m L with
 | true => k (s.swap L)
 | false => k s
noncomputable def Zk7 (C : Cx) (ops : List Oper) (tail : TSt → Option β) (i : Nat) (π1 : List (Nat × Bool)) (j : Nat) (π2 : List (Nat × Bool)) (s : TSt) : Option β := match nthOp ops i, nthOp ops j with
 | some o, some o' => (match o.guard, o'.guard with
  | none, none => both (Z2j C false o (Z21 C ops tail π1) s) (Z2j C false o' (Z21 C ops (Zik C.m s.heap.length tail) π2) s)
  | _, _ => none)
 | _, _ => none
def Plan.isNo : Plan → Bool
 | .no => true
 | _ => false
noncomputable def Zu (C : Cx) (ops : List Oper) (tail : TSt → Option β) : Plan → TSt → Option β
 | .done, s => tail s
 | .take i r, s => (match nthOp ops i with
  | some o => Z1y C ops o (Z2j C true o (Zu C ops tail r)) (Zu C ops tail r) s
  | none => none)
 | .alt i a b, s => (match b.isNo with
  | true => (match nthOp ops i with
   | some o => Z1y C ops o (Z6p C o (Zu C ops tail a)) (Zu C ops tail a) s
   | none => none)
  | false => both (match nthOp ops i with
   | some o => Z1y C ops o (Z6p C o (Zu C ops tail a)) (Zu C ops tail a) s
   | none => none) (Zu C ops tail b s))
 | .swp k r, s => Zik C.m (s.heap.length - k) (Zu C ops tail r) s
 | .no, _ => none
noncomputable def Zk8 (C : Cx) (ops : List Oper) (d : Nat × List (Nat × Bool) × Option (Nat × List (Nat × Bool) × Nat × List (Nat × Bool))) (K : TSt → Option β) (s : TSt) : Option β :=
 Z21 C ops (match d.2.2 with
  | none => Z2k C ops (Z88 ops d.1) K
  | some (i, π1, j, π2) => Zk7 C ops (Z2k C ops (Z88 ops d.1) K) i π1 j π2) d.2.1 s
end
theorem Z6a {β : Type} {b : Bool} {x y : Option β} {r : β} (h : cb b x y = some r) : (b = true → x = some r) ∧ (b = false → y = some r) := by
 cases b with
 | true => exact ⟨fun _ => h, fun e => (nomatch e)⟩
 | false => exact ⟨fun e => (nomatch e), fun _ => h⟩
theorem Za3 {β : Type} {want b : Bool} {x y : Option β} {r : β} (h : gd want b x y = some r) : (b = want → x = some r) ∧ (b = (!want) → y = some r) := by
 cases want with
 | true => exact Z6a h
 | false => exact (Z6a h).symm
theorem Zci {β : Type} {a b : Option β} {r : β} (h : both a b = some r) : a = some r ∧ b = some r := by
 unfold both at h
 by_cases hc : a = b
 ·rw [if_pos hc] at h; exact ⟨h, hc ▸ h⟩
 ·rw [if_neg hc] at h; cases h
theorem Z8g {β : Type} (a : Option β) : both a a = a := by unfold both; rw [if_pos rfl]
def Za (ops : List Oper) : List Nat := ops.filterMap (·.dst)
section
variable {P : Program} {C : Cx} {X : Ctx} {σ : Nat → Option Blk} {F : Nat → Prop} {a : Act} {w : World} {s : TSt} {o : Oper} {β : Type}
theorem PureSame.fr {s s' : TSt} (h : PureSame s s') (W : List Nat) : WFr W s s' := fun i _ => ⟨(h i).1, fun t x hx => .inr ((h i).2.1 t x hx), fun t x hx => .inr ((h i).2.2.1 t x hx), fun g hx => .inr ((h i).2.2.2 g hx)⟩
theorem opT.mono {K K' : TSt → Prop} (h : opT P X o K s) (hk : ∀ s, K s → K' s) : opT P X o K' s := opWP.mono h fun s' ⟨s1, h1, h2⟩ => ⟨s1, h1, hk _ h2⟩
def lk (X : Ctx) (K : TSt → Option β) (r : β) (W : List Nat) (s : TSt) : St → Prop := fun s' => ∃ s1, Imp X s' s1.toSt ∧ K s1 = some r ∧ WFr W s s1
theorem Z12 {ops : List Oper} {o : Oper} (h : o ∈ ops) {d : Nat} (hd : o.dst = some d) : d ∈ Za ops := List.mem_filterMap.2 ⟨o, h, hd⟩
theorem Z4a {ops : List Oper} {j d : Nat} (h : nthDst ops j = some d) : d ∈ Za ops := by
 rw [nthDst_eq] at h
 obtain ⟨o, h1, h2⟩ := Option.bind_eq_some_iff.1 h
 exact Z12 (List.mem_of_getElem? h1) h2
theorem Z24 {n : Nat} {d : Option Nat} (h : dB n d = true) : dOK n d := by
 cases d with
 | none => trivial
 | some d => exact (of_decide_eq_true (p := d < n) h)
theorem Zfp {W : List Nat} (hd : ∀ d, o.dst = some d → d ∈ W) {q : R2} (hq : Tell2 P X o s q) {K : TSt → Option β} {r : β} (h : useR s o.dst K q = some r) : opWP P X o (lk X K r W s) s.toSt := by
 have put : ∀ {s' : TSt} (x : SV), PureSame s s' → WFr W s (s'.put o.dst x) := fun x hp => WFr.put (hp.fr W) hd x
 cases q with
 | bad => cases h
 | ok s' x => exact hq.2 (fun s1 => K s1 = some r ∧ WFr W s s1) ⟨h, put x hq.1⟩
 | cond c s' x =>
  obtain ⟨hc, h⟩ := Z1u h
  exact hq.2 hc (fun s1 => K s1 = some r ∧ WFr W s s1) ⟨h, put x hq.1⟩
 | call ts q s' =>
  obtain ⟨y, h1, h2⟩ := Z3i h
  exact hq.2 y h1 (fun s1 => K s1 = some r ∧ WFr W s s1) ⟨h2, put _ hq.1⟩
 | callO ts os q s' =>
  obtain ⟨y, h1, h2⟩ := Z3i h
  exact hq.2 y h1 (fun s1 => K s1 = some r ∧ WFr W s s1) ⟨h2, put _ (hq.1.trans (.of _ _ rfl))⟩
 | pick b x y =>
  obtain ⟨h1, h2⟩ := Z6a h
  exact hq (fun s1 => K s1 = some r ∧ WFr W s s1) (fun e => ⟨h1 e, put _ (.refl _)⟩) (fun e => ⟨h2 e, put _ (.refl _)⟩)
 | nq c b =>
  obtain ⟨h1, h2⟩ := nq_some h
  refine hq (fun s1 => K s1 = some r ∧ WFr W s s1) (fun _ => ⟨h1, put _ (.refl _)⟩) (fun hc b' => ⟨?_, put _ (.refl _)⟩)
  by_cases e : b' = b
  ·subst e; exact h1
  ·have e' : b' = !b := by cases b <;> cases b' <;> first | rfl | exact absurd rfl e
   rw [e']; exact h2 hc
theorem Z2q {d : Nat} {b : Bool} (hd : (tget s.env d).boo = some b) : Imp X s.toSt (s.put (some d) (.cst (.bool b))).toSt := by
 intro a w hr
 have h := Rep.know (d := d) (b := b) (by simp only [TSt.toSt, Zl]; exact Z2l hd) hr
 rw [TSt.put_ok]
 exact h
theorem Z4e {x : SV} (h : isUndef x = true) : x = undefS := by
 unfold isUndef at h
 split at h
 ·split at h
  ·rename_i a
   rw [Array.eq_empty_of_size_eq_zero (of_decide_eq_true h)]; rfl
  ·cases h
 ·cases h
theorem Z47 (h : List TObj) : undefS.toAV h = .v undef := rfl
theorem Z25 {s : St} {ops : Array Oper} {j d : Nat} (hj : (ops[j]?).bind (·.dst) = some d) (hn : d < X.n) (hd : envGet s.env d = .v undef) {a : Act} {w : World} (hr : Rep X s a w) : yielded ops a.tmps j = none := by
 obtain ⟨σ, F, hr⟩ := hr
 have hv : a.tmps.getD d undef = undef := RepV.val (hd ▸ hr.env d)
 have hlt : d < a.tmps.size := by rw [hr.size]; exact hn
 have : a.tmps[d]? = some undef := by
  rw [Array.getElem?_eq_getElem hlt]
  rw [Array.getD_eq_getD_getElem?, Array.getElem?_eq_getElem hlt] at hv
  exact congrArg some hv
 simp [yielded, hj, this, undef]
theorem WPO.skip {ops : Array Oper} {rest : List Oper} {o : Oper} {K : St → Prop} {s : St} (hw : ∀ a w, Rep X s a w → Region.wanted o (yielded ops a.tmps) = false) (hdst : dOK X.n o.dst) (h : WPO P X ops rest K (s.put o.dst (.v undef))) : WPO P X ops (o :: rest) K s := by
 intro Qc a w hK hr
 refine wpList_step fun K' hK' => ?_
 rw [if_neg (by rw [hw a w hr]; simp)]
 obtain ⟨σ, F, hr⟩ := hr
 exact hK' _ _ (h Qc _ _ hK ⟨σ, F, hr.put hdst (.f _ _ (.v _))⟩)
theorem Z36 (hC : CxOK P C) (hn : X.n = C.n) (hm : X.m = C.m) (ops : List Oper) : ∀ (l : List Oper) (K : TSt → Option β) (s : TSt) (r : β), (∀ o ∈ l, o ∈ ops) → Z2k C ops l K s = some r → WPO P X ops.toArray l (lk X K r (Za ops) s) s.toSt
 | [], K, s, r, _, h => WPO.nil ⟨s, .refl _ _, h, .refl _ _⟩
 | o :: l, K, s, r, hin, h => by
  have ho : o ∈ ops := hin o (List.mem_cons_self ..)
  have hl : ∀ o ∈ l, o ∈ ops := fun o h => hin o (List.mem_cons_of_mem _ h)
  have rest : ∀ {s0 s' : TSt}, Z2k C ops l K s' = some r → WFr (Za ops) s0 s' → WPO P X ops.toArray l (lk X K r (Za ops) s0) s'.toSt := fun h1 h2 => by
   intro Qc a w hK hr
   exact Z36 hC hn hm ops l K _ r hl h1 Qc a w (fun s2 a' w' ⟨s3, h3, h4, h5⟩ hr' => hK s2 a' w' ⟨s3, h3, h4, h2.trans h5 (fun _ h => h) (fun _ h => h)⟩ hr') hr
  have one : ∀ {s0 s : TSt}, WFr (Za ops) s0 s → Z6p C o (Z2k C ops l K) s = some r → opWP P X o (WPO P X ops.toArray l (lk X K r (Za ops) s0)) s.toSt := fun {s0 s} hs h => by
   unfold Z6p at h
   split at h
   ·rename_i hd
    refine (Zfp (fun d hd => Z12 ho hd) (Zhf hC hm (hn ▸ Z24 hd)) h).mono ?_
    rintro s' ⟨s1, h1, h2, h3⟩ Qc a w hK hr
    exact rest h2 (hs.trans h3 (fun _ h => h) (fun _ h => h)) Qc a w hK (h1 a w hr)
   ·cases h
  unfold Z2k Z1y at h
  split at h
  ·rename_i hg
   exact WPO.cons hg (one (.refl _ _) h)
  ·rename_i j want hg
   split at h
   ·rename_i d hj
    have hj' : (ops.toArray[j]?).bind (·.dst) = some d := by rw [List.getElem?_toArray, ← nthDst_eq]; exact hj
    have hdm := Z4a hj
    have wf1 : ∀ (v : SV), WFr (Za ops) s (s.put (some d) v) := fun v => WFr.put (.refl _ _) (fun i hi => by cases hi; exact hdm) v
    split at h
    ·rename_i hu hdn
     rw [Bool.and_eq_true] at hdn
     have hu' := Z4e hu
     refine WPO.skip (fun a w hr => ?_) (hn ▸ Z24 hdn.2) ?_
     ·have h1 := Z25 hj' (hn ▸ of_decide_eq_true hdn.1) (by simp only [TSt.toSt, Zl]; rw [hu']; rfl) hr
      simp [Region.wanted, hg, h1]
     ·have h3 := rest (s0 := s) h (WFr.put (.refl _ _) (fun i hi => Z12 ho hi) _)
      rwa [TSt.put_ok, Z47] at h3
    ·rename_i hu hdn
     rw [Bool.and_eq_true] at hdn
     split at h
     ·rename_i b hb
      obtain ⟨h1, h2⟩ := Za3 h
      by_cases e : b = want
      ·refine WPO.guard hg hj' (by simp only [TSt.toSt, Zl]; exact Z2l hb) (hn ▸ Z24 hdn.2) (hn ▸ of_decide_eq_true hdn.1) (fun e => ?_) (fun e' => ?_)
       ·exact opWP.from (Z2q (by rw [hb, e])) (one (wf1 _) (h1 e))
       ·exfalso; rw [e] at e'; cases want <;> cases e'
      ·have e' : b = !want := by cases b <;> cases want <;> first | rfl | exact absurd rfl e
       have hk : Imp X s.toSt (s.put (some d) (.cst (.bool (!want)))).toSt := Z2q (by rw [hb, e'])
       have h3 := rest (s0 := s) (h2 e') (WFr.put (wf1 _) (fun i hi => Z12 ho hi) _)
       rw [TSt.put_ok, Z47] at h3
       have h4 := WPO.skip (o := o) (s := (s.put (some d) (.cst (.bool (!want)))).toSt) (fun a w hr => by
        have h1 : yielded ops.toArray a.tmps j = some (!want) := by
         obtain ⟨σ, F, hr⟩ := hr
         have hv : a.tmps.getD d undef = .bool (!want) := RepV.val ((by simp only [TSt.toSt, Zl, TSt.put, tget, if_true]; rfl : envGet (s.put (some d) (.cst (.bool (!want)))).toSt.env d = AV.v (.bool (!want))) ▸ hr.env d)
         have hlt : d < a.tmps.size := by rw [hr.size, hn]; exact of_decide_eq_true hdn.1
         have : a.tmps[d]? = some (.bool (!want)) := by
          rw [Array.getElem?_eq_getElem hlt]
          rw [Array.getD_eq_getD_getElem?, Array.getElem?_eq_getElem hlt] at hv
          exact congrArg some hv
         simp only [yielded, hj', Option.bind_some, this]
        simp [Region.wanted, hg, h1]) (hn ▸ Z24 hdn.2) h3
       intro Qc a w hK hr
       exact h4 Qc a w hK (hk a w hr)
     ·cases h
    ·cases h
   ·cases h
end
end Go.Proofs.YtplgphblmeceoaaGreatDoor.Eng
set_option linter.unusedVariables false
set_option linter.unusedSimpArgs false
namespace Go.Proofs.YtplgphblmeceoaaGreatDoor.Eng
open Go Go.RowKit
section
variable {P : Program} {C : Cx} {X : Ctx} {σ : Nat → Option Blk} {F : Nat → Prop} {a : Act} {w : World} {s : TSt} {o : Oper} {β : Type} {ops : Array Oper} {n : Nat} {rest : List (Nat × Bool)} {listed : Array Bool}
theorem DrawJ.mono {K K' : St → Prop} {s : St} (hk : ∀ s, K s → K' s) (h : DrawJ P X ops n rest listed K s) : DrawJ P X ops n rest listed K' s :=
 fun Qc a w hQ hK hr inv => h Qc a w hQ (fun s' a' w' h1 h2 => hK s' a' w' (hk _ h1) h2) hr inv
theorem Z2u {W : List Nat} (hd : ∀ d, o.dst = some d → d ∈ W) {q : R2} (hq : Z5r P X o s q) {K : TSt → Option β} {r : β} (h : useR s o.dst K q = some r) : opWPG P X o (lk X K r W s) s.toSt := by
 cases q with
 | bad => cases h
 | call ts q s' =>
  obtain ⟨y, h1, h2⟩ := Z3i h
  exact hq.2 y h1 (fun s1 => K s1 = some r ∧ WFr W s s1) ⟨h2, WFr.put (hq.1.fr W) hd _⟩
 | callO ts os q s' =>
  obtain ⟨y, h1, h2⟩ := Z3i h
  have hp : PureSame s (s'.pushL (ownObjs ts os y)) := hq.1.trans (.of _ _ rfl)
  exact hq.2 y h1 (fun s1 => K s1 = some r ∧ WFr W s s1) ⟨h2, WFr.put (hp.fr W) hd _⟩
 | ok s' x => exact hq.2 (fun s1 => K s1 = some r ∧ WFr W s s1) ⟨h, WFr.put (hq.1.fr W) hd _⟩
 | cond c s' x =>
  obtain ⟨hc, h⟩ := Z1u h
  exact hq.2 hc (fun s1 => K s1 = some r ∧ WFr W s s1) ⟨h, WFr.put (hq.1.fr W) hd _⟩
 | _ => exact hq.elim
def Z50 (ops : Array Oper) (n : Nat) : List (Nat × Bool) → Array Bool → Option (Array Bool)
 | [], listed => some listed
 | (i, true) :: r, listed => (match decide (i < n) && (Region.ready .any ops listed).contains i && Region.free .any ops listed i with
  | true => Z50 ops n r (listed.setIfInBounds i true)
  | false => none)
 | (i, false) :: r, listed => (match decide (i < n) && decide (Region.ready .any ops listed = [i]) with
  | true => Z50 ops n r (listed.setIfInBounds i true)
  | false => none)
theorem Zfi {ops : Array Oper} {n i : Nat} {π : List (Nat × Bool)} {listed l' : Array Bool} (h : Z50 ops n ((i, true) :: π) listed = some l') : ((i < n ∧ (Region.ready .any ops listed).contains i = true) ∧ Region.free .any ops listed i = true) ∧ Z50 ops n π (listed.setIfInBounds i true) = some l' := by
 simp only [Z50] at h
 split at h
 ·rename_i hc
  simp only [Bool.and_eq_true, decide_eq_true_eq] at hc
  exact ⟨hc, h⟩
 ·cases h
theorem Zfj {ops : Array Oper} {n i : Nat} {π : List (Nat × Bool)} {listed l' : Array Bool} (h : Z50 ops n ((i, false) :: π) listed = some l') : (i < n ∧ Region.ready .any ops listed = [i]) ∧ Z50 ops n π (listed.setIfInBounds i true) = some l' := by
 simp only [Z50] at h
 split at h
 ·rename_i hc
  simp only [Bool.and_eq_true, decide_eq_true_eq] at hc
  exact ⟨hc, h⟩
 ·cases h
theorem Z37 (hC : CxOK P C) (hn : X.n = C.n) (hm : X.m = C.m) {l : List Oper} {h : Nat} (hs : Region.noSelect l.toArray = true) (hh : Z83 .any l.toArray h = true) {tail : TSt → Option β} {r : β} {rest : List (Nat × Bool)} {listed' : Array Bool} {K' : St → Prop} {s0 : TSt} :
  ∀ (π : List (Nat × Bool)) (listed : Array Bool) (s : TSt), Z50 l.toArray h π listed = some listed' → Z21 C l tail π s = some r → WFr (Za l) s0 s → (∀ s', tail s' = some r → WFr (Za l) s0 s' → DrawJ P X l.toArray h rest listed' K' s'.toSt) → DrawJ P X l.toArray h (π ++ rest) listed K' s.toSt
 | [], listed, s, hw, hx, hf0, hk => by
  cases hw
  exact hk s hx hf0
 | (i, f) :: π, listed, s, hw, hx, hf0, hk => by
  show DrawJ P X l.toArray h ((i, f) :: (π ++ rest)) listed K' s.toSt
  unfold Z21 at hx
  rw [nthOp_eq] at hx
  split at hx
  ·rename_i o hi
   have hi' : l.toArray[i]? = some o := by rw [List.getElem?_toArray]; exact hi
   have ho : o ∈ l := List.mem_of_getElem? hi
   have hdm : ∀ d, o.dst = some d → d ∈ Za l := fun d hd => Z12 ho hd
   have ih : ∀ {s' : TSt}, WFr (Za l) s0 s' → Z21 C l tail π s' = some r → Z50 l.toArray h π (listed.setIfInBounds i true) = some listed' → DrawJ P X l.toArray h (π ++ rest) (listed.setIfInBounds i true) K' s'.toSt := fun {s'} hf h1 h2 =>
    Z37 hC hn hm hs hh π _ s' h2 h1 hf hk
   have step : ∀ {s' : TSt}, WFr (Za l) s0 s' → (∀ a w, Rep X s'.toSt a w → Region.wanted o (yielded l.toArray a.tmps) = true) → Z2j C f o (Z21 C l tail π) s' = some r → DrawJ P X l.toArray h ((i, f) :: (π ++ rest)) listed K' s'.toSt := by
    intro s' hf hwant hx
    unfold Z2j at hx
    split at hx
    ·rename_i hd _
     have hd' : dOK X.n o.dst := hn ▸ Z24 hd
     obtain ⟨⟨⟨hw1, hw2⟩, hw3⟩, hw4⟩ := Zfi hw
     have val : ∀ {x : SV} {v : AV}, (∀ σ F a w, RepAt X σ F s'.toSt a w → ∃ u, (∀ w', Grow w w' → (execOp a.eval o).run P w' = .ok (.value u) w') ∧ RepV σ F w v u) → AV.le v (x.toAV s'.heap) → Z21 C l tail π (s'.put o.dst x) = some r → DrawJ P X l.toArray h ((i, true) :: (π ++ rest)) listed K' s'.toSt := by
      intro x v hv hle hx
      refine DrawJ.take hi' hs hh hw1 hw2 hw3 hd' (x := x.toAV s'.heap) (fun σ F a w hat => ?_) ?_
      ·obtain ⟨u, h1, h2⟩ := hv σ F a w hat
       exact ⟨u, .inl ⟨hwant a w ⟨σ, F, hat⟩, h1⟩, RepV.le hle h2⟩
      ·rw [← TSt.put_ok]
       exact ih (WFr.put hf hdm _) hx hw4
     split at hx
     ·rename_i cnd p q ho'
      split at hx
      ·rename_i b hb
       obtain ⟨h1, h2⟩ := Z6a hx
       cases b with
       | true =>
        refine val (x := s'.ev p) (v := s'.toSt.ev p) (fun σ F a w hat => ?_) (by rw [TSt.ev_ok]; exact .refl _) (h1 rfl)
        have hv : a.eval cnd = .bool true := RepV.val ((show s'.toSt.ev cnd = AV.v (.bool true) by rw [TSt.ev_ok, Z2l hb]) ▸ hat.ev cnd)
        exact ⟨a.eval p, fun w' _ => by simp [execOp, ho', hv, asBool], hat.ev p⟩
       | false =>
        refine val (x := s'.ev q) (v := s'.toSt.ev q) (fun σ F a w hat => ?_) (by rw [TSt.ev_ok]; exact .refl _) (h2 rfl)
        have hv : a.eval cnd = .bool false := RepV.val ((show s'.toSt.ev cnd = AV.v (.bool false) by rw [TSt.ev_ok, Z2l hb]) ▸ hat.ev cnd)
        exact ⟨a.eval q, fun w' _ => by simp [execOp, ho', hv, asBool], hat.ev q⟩
      ·cases hx
     ·rename_i t parts ho'
      split at hx
      ·rename_i s1 x hb
       refine val (x := x) (v := x.toAV s'.heap) (fun σ F a w hat => ?_) (.refl _) hx
       obtain ⟨u, h1, h2⟩ := Zcg (X := X) hC.T ho' hb σ F a w hat
       exact ⟨u, fun w' _ => h1 w', h2⟩
      ·cases hx
     ·have ht := Z67 (T := C.T) (s := s') (op := o.op)
      cases hq : exT1 C.T s' o.op with
      | bad => rw [hq] at hx; cases hx
      | ok x =>
       rw [hq] at hx ht
       obtain ⟨c', x', he, hc, hle⟩ := ht
       exact val (fun σ F a w hat => Z79 hC.T hat he hc) hle hx
      | cond c x =>
       rw [hq] at hx ht
       obtain ⟨hc, hx⟩ := Z1u hx
       obtain ⟨c', x', he, hc, hle⟩ := ht hc
       exact val (fun σ F a w hat => Z79 hC.T hat he hc) hle hx
    ·rename_i hd _
     have hd' : dOK X.n o.dst := hn ▸ Z24 hd
     obtain ⟨⟨hw1, hw2⟩, hw4⟩ := Zfj hw
     have fin : ∀ {q : R2}, Z5r P X o s' q → useR s' o.dst (Z21 C l tail π) q = some r → DrawJ P X l.toArray h ((i, false) :: (π ++ rest)) listed K' s'.toSt := by
      intro q hq hx
      refine DrawJ.only hi' hw1 hw2 (fun Qc next a w hnx hr => ?_)
      rw [if_pos (hwant a w hr)]
      refine ((Z2u hdm hq hx).mono ?_) Qc next a w hnx hr
      rintro s2 ⟨s1, h1, h2, h3⟩
      exact DrawJ.from h1 (ih (hf.trans h3 (fun _ h => h) (fun _ h => h)) h2 hw4)
     split at hx
     ·rename_i fop args ts ho'; exact fin (Zdl hC hd' ho') hx
     ·rename_i e ho'; exact fin (Zan hC.T hd' ho') hx
     ·rename_i e y ho'; exact fin (Zhz hC.T hd' ho') hx
     ·rename_i t parts ho'; exact fin (Zai hC.T hd' ho') hx
     ·rename_i t len parts ho'; exact fin (Z3q hC.T hd' ho') hx
     ·rename_i t y z ho'; exact fin (Z41 hC.T hd' ho') hx
     ·rename_i t ho'; exact fin (Z61 hC hd' ho') hx
     ·rename_i t x k b ho'; exact fin (Z7v hC hd' ho') hx
     ·rename_i t t' x ho'
      split at hx
      ·rename_i y hy; exact fin (Z44 hC.T hd' ho' hy) hx
      ·cases hx
     ·cases hx
    ·cases hx
   unfold Z1y at hx
   split at hx
   ·rename_i hg
    exact step hf0 (fun a w hr => by simp [Region.wanted, hg]) hx
   ·rename_i j want hg
    split at hx
    ·rename_i d hj
     have hj' : (l.toArray[j]?).bind (·.dst) = some d := by rw [List.getElem?_toArray, ← nthDst_eq]; exact hj
     have hdj := Z4a hj
     have wf1 : ∀ (v : SV), WFr (Za l) s0 (s.put (some d) v) := fun v => WFr.put hf0 (fun i hi => by cases hi; exact hdj) v
     have skip : ∀ {s' : TSt}, WFr (Za l) s0 s' → dOK X.n o.dst → (∀ a w, Rep X s'.toSt a w → Region.wanted o (yielded l.toArray a.tmps) = false) → Z21 C l tail π (s'.put o.dst undefS) = some r → DrawJ P X l.toArray h ((i, f) :: (π ++ rest)) listed K' s'.toSt := by
      intro s' hf hdst hno hx9
      have hfr : WFr (Za l) s0 (s'.put o.dst undefS) := WFr.put hf hdm _
      cases f with
      | true =>
       obtain ⟨⟨⟨hw1, hw2⟩, hw3⟩, hw4⟩ := Zfi hw
       have h9 := ih hfr hx9 hw4
       rw [TSt.put_ok, Z47] at h9
       exact DrawJ.take hi' hs hh hw1 hw2 hw3 hdst (fun σ F a w hat => ⟨undef, .inr ⟨hno a w ⟨σ, F, hat⟩, rfl⟩, .f _ _ (.v _)⟩) h9
      | false =>
       obtain ⟨⟨hw1, hw2⟩, hw4⟩ := Zfj hw
       refine DrawJ.only hi' hw1 hw2 (fun Qc next a w hnx hr => ?_)
       rw [if_neg (by simp [hno a w hr])]
       obtain ⟨σ, F, hr⟩ := hr
       have h9 := ih hfr hx9 hw4
       rw [TSt.put_ok, Z47] at h9
       exact hnx _ _ _ h9 ⟨σ, F, hr.put hdst (.f _ _ (.v _))⟩ (Grow.refl w)
     split at hx
     ·rename_i hu hdn
      rw [Bool.and_eq_true] at hdn
      have hu' := Z4e hu
      refine skip hf0 (hn ▸ Z24 hdn.2) (fun a w hr => ?_) hx
      have h1 := Z25 hj' (hn ▸ of_decide_eq_true hdn.1) (by simp only [TSt.toSt, Zl]; rw [hu']; rfl) hr
      simp [Region.wanted, hg, h1]
     ·rename_i hu hdn
      rw [Bool.and_eq_true] at hdn
      have hdl : d < X.n := hn ▸ of_decide_eq_true hdn.1
      split at hx
      ·rename_i b hb
       obtain ⟨h1, h2⟩ := Za3 hx
       have known : ∀ {b' : Bool} {a : Act} {w : World}, Rep X (s.put (some d) (.cst (.bool b'))).toSt a w → yielded l.toArray a.tmps j = some b' := fun {b' a w} hr =>
        Z3b hj' hdl (s := (s.put (some d) (.cst (.bool b'))).toSt) (by simp only [TSt.toSt, Zl, TSt.put, tget, if_true]; rfl) hr
       by_cases e : b = want
       ·refine DrawJ.from (Z2q (by rw [hb, e])) (step (wf1 _) (fun a w hr => ?_) (h1 e))
        simp [Region.wanted, hg, known hr]
       ·have e' : b = !want := by cases b <;> cases want <;> first | rfl | exact absurd rfl e
        refine DrawJ.from (Z2q (b := !want) (by rw [hb, e'])) (skip (wf1 _) (hn ▸ Z24 hdn.2) (fun a w hr => ?_) (h2 e'))
        simp [Region.wanted, hg, known hr]
      ·cases hx
     ·cases hx
    ·cases hx
  ·cases hx
end
section
variable {P : Program} {C : Cx} {X : Ctx} {σ : Nat → Option Blk} {F : Nat → Prop} {a : Act} {w : World} {s : TSt} {o : Oper} {β : Type} {ops : Array Oper} {n : Nat} {rest : List (Nat × Bool)} {listed : Array Bool} {K : St → Prop}
theorem DrawJ.two {s : St} {i j : Nat} {oi oj : Oper} {rest' : List (Nat × Bool)} (hi : ops[i]? = some oi) (hj : ops[j]? = some oj) (hin : i < n) (hjn : j < n) (hr : Region.ready .any ops listed = [i, j]) (hgi : oi.guard = none) (hgj : oj.guard = none) (hl : rest.length = rest'.length)
  (h1 : opWPG P X oi (DrawJ P X ops n rest (listed.setIfInBounds i true) K) s) (h2 : opWPG P X oj (DrawJ P X ops n rest' (listed.setIfInBounds j true) K) s) : DrawJ P X ops n ((i, false) :: rest) listed K s := by
 intro Qc a w hQ hK hrep inv
 refine ⟨by rw [hr]; simp, fun q hq => ?_⟩
 rw [hr] at hq
 have hq' : q ∈ Region.ready .any ops listed := by rw [hr]; exact hq
 have one : ∀ {o : Oper} {π : List (Nat × Bool)}, ops[q]? = some o → o.guard = none → q < n → π.length = rest.length → opWPG P X o (DrawJ P X ops n π (listed.setIfInBounds q true) K) s → q < n ∧ wpOp P ops Qc q (fun a' w' => Grow w w' ∧ anyT P .any ops Qc n (fun listed a w => Region.seqB .any ops (ops.size - n) n listed = true ∧ wpList P ops Qc (ops.toList.drop n) a w) rest.length (listed.setIfInBounds q true) a' w' (Grow w)) a w := by
  intro o π ho hg hqn hlen hw
  refine ⟨hqn, ?_⟩
  have h3 := hw Qc (fun a' w' => Grow w w' ∧ anyT P .any ops Qc n (fun listed a w => Region.seqB .any ops (ops.size - n) n listed = true ∧ wpList P ops Qc (ops.toList.drop n) a w) rest.length (listed.setIfInBounds q true) a' w' (Grow w)) a w
   (fun s' a' w' hd hr' hgr => ⟨hgr, by rw [← hlen]; exact Z8j (fun w2 h2 => hgr.trans h2) _ _ _ _ (hd Qc a' w' hQ hK hr' (inv.set hq' hqn))⟩) hrep
  unfold wpOp
  simp only [ho]
  rw [if_pos (by simp [Region.wanted, hg])]
  exact .inl h3
 rcases List.mem_cons.1 hq with rfl | hq
 ·exact one hi hgi hin rfl h1
 ·rw [List.mem_singleton] at hq
  subst hq
  exact one hj hgj hjn hl.symm h2
end
def Zka (ops : Array Oper) (n : Nat) (π : List (Nat × Bool)) (i : Nat) (π1 : List (Nat × Bool)) (j : Nat) (π2 : List (Nat × Bool)) : Bool :=
 Region.noSelect ops && Z83 .any ops n && decide (π.length + (1 + π1.length) = n) && decide (π1.length = π2.length) && decide (n ≤ ops.size) && decide (i < n) && decide (j < n) && (match Z50 ops n π (Array.replicate ops.size false) with
  | some l => decide (Region.ready .any ops l = [i, j]) && Z7h ops n π1 (l.setIfInBounds i true) && Z7h ops n π2 (l.setIfInBounds j true)
  | none => false)
def regB (ops : Array Oper) (d : Nat × List (Nat × Bool) × Option (Nat × List (Nat × Bool) × Nat × List (Nat × Bool))) : Bool := match d.2.2 with
 | none => drawB ops d.1 d.2.1
 | some (i, π1, j, π2) => Zka ops d.1 d.2.1 i π1 j π2
def exitB : Exit → Exit → Bool
 | .normal, .normal => true
 | .ret, .ret => true
 | .exit i, .exit j => decide (i = j)
 | _, _ => false
theorem Z78 {e e' : Exit} (h : exitB e e' = true) : e = e' := by
 unfold exitB at h
 split at h
 ·rfl
 ·rfl
 ·rw [of_decide_eq_true h]
 ·cases h
def Z99 (env : List (Nat × SV)) : List (Nat × SK) → Bool
 | [] => true
 | (i, _) :: r => (match tget env i with | .any => false | _ => Z99 env r)
def Z1l (env : List (Nat × SV)) : List (Nat × SK) → Bool
 | [] => true
 | (i, .val _) :: r => (match tget env i with | .val _ _ => Z1l env r | .cst _ => Z1l env r | _ => false)
 | (_, .rp _) :: r => Z1l env r
 | (i, .fn f) :: r => (match tget env i with | .fn f' [] => decide (f' = f) && Z1l env r | _ => false)
 | (_, .own _ _) :: _ => false
 | (_, .que _ _) :: _ => false
 | (_, .ptr _ _) :: _ => false
 | (_, .nm _ _) :: _ => false
 | (_, .agg _) :: _ => false
 | (_, .nil) :: _ => false
 | (_, .inn _) :: _ => false
 | (_, .clo _ _) :: _ => false
def sumD : List (Exit × Shape) → Type
 | [] => Empty
 | [p] => denL p.2.tys
 | p :: q :: r => denL p.2.tys ⊕ sumD (q :: r)
noncomputable def Zf9 {β : Type} (m : Nat) : (l : List (Exit × Shape)) → Exit → TSt → (sumD l → Option β) → Option β
 | [], _, _, _ => none
 | [p], e, s, k => (match exitB p.1 e && Nat.ble m p.2.objs.length with
  | true => renF m p.2.slots s fun s => decS p.2 s k
  | false => none)
 | p :: q :: r, e, s, k => (match exitB p.1 e with
  | true => (match Nat.ble m p.2.objs.length with
   | true => renF m p.2.slots s fun s => decS p.2 s fun x => k (.inl x)
   | false => none)
  | false => Zf9 m (q :: r) e s fun y => k (.inr y))
def Zjw {β : Type} : (l : List (Exit × Shape)) → sumD l → (Exit → (sh : Shape) → denL sh.tys → Option β) → Option β
 | [], _, _ => none
 | [p], x, k => k p.1 p.2 x
 | p :: q :: r, x, k => Z1g x (fun a => k p.1 p.2 a) (fun b => Zjw (q :: r) b k)
structure Ent where
 pre : List PA
 inv : List (Nat × SK)
 car : Shape
 exits : List (Exit × Shape)
 step : denL (slotTys inv) → denL car.tys → Option (denL car.tys ⊕ sumD exits)
 m : Nat := 0
def Ent.head (ent : Ent) (iv : denL (slotTys ent.inv)) (x : denL ent.car.tys) : TSt := encS ent.car x (encI ent.inv iv)
noncomputable def Ent.kd (ent : Ent) (e : Exit) (s : TSt) : Option (denL ent.car.tys ⊕ sumD ent.exits) := match Z99 s.env ent.inv with
 | true => (match exitB .normal e with
  | true => renF ent.m ent.car.slots s fun s => decS ent.car s fun x => some (.inl x)
  | false => Zf9 ent.m ent.exits e s fun y => some (.inr y))
 | false => none
noncomputable def runL {β : Type} (C : Cx) (ent : Ent) (K : Exit → TSt → Option β) (s : TSt) : Option β := match preF C.TY ent.pre s with
 | some s => renF ent.m ent.car.slots s fun s => (match Z1l s.env ent.inv, asTL [] (slotTys ent.inv) (Zc s.env ent.inv) with
  | true, some iv => decS ent.car s fun x => ob (Zj (ent.step iv) x) fun r => Zjw ent.exits r fun e sh a => K e (encS sh a (encI ent.inv iv))
  | _, _ => none)
 | none => none
def Plan.ids : Plan → List Nat
 | .alt i _ b => i :: b.ids
 | _ => []
def Z8o (T : Tab) (ops : Array Oper) (n : Nat) : Plan → Bool → Nat → Array Bool → Bool
 | .done, m, f, listed => !m && decide (f = 0) && Region.seqB .any ops (ops.size - n) n listed
 | .take i r, m, f, listed => !m && (match f with
  | 0 => false
  | f + 1 => decide (i < n) && (Region.ready .any ops listed).contains i && Region.free .any ops listed i && (match ops[i]? with | some o => Zb6 T o.op | none => false) && Z8o T ops n r false f (listed.setIfInBounds i true))
 | .alt i a b, m, f, listed => (m || decide (Region.ready .any ops listed = i :: b.ids)) && (match f with
  | 0 => false
  | f' + 1 => decide (i < n) && Z8o T ops n a false f' (listed.setIfInBounds i true) && Z8o T ops n b true f listed)
 | .swp _ r, m, f, listed => !m && !r.isNo && Z8o T ops n r false f listed
 | .no, m, _, _ => m
def regP (T : Tab) (ops : Array Oper) (d : Nat × Plan) : Bool :=
 Region.noSelect ops && Z83 .any ops d.1 && decide (d.1 ≤ ops.size) && Z8o T ops d.1 d.2 false d.1 (Array.replicate ops.size false)
structure EntM where
 pre : List PA
 inv : List (Nat × SK)
 car : Shape
 exits : List (Exit × Shape)
 it : Nat
 k : Nat
 t : Ty
 step : denL (slotTys inv) → denL car.tys → Option (ByteArray × t.den) → Option (denL car.tys ⊕ sumD exits)
def EntM.ent (ent : EntM) : Ent := ⟨ent.pre, (ent.it, .val .adr) :: ent.inv, ent.car, ent.exits, fun _ _ => none, 0⟩
def EntM.head (ent : EntM) (g : Nat) (iv : denL (slotTys ent.inv)) (x : denL ent.car.tys) : TSt := ((encS ent.car x (encI ent.inv iv)).subAll (Z16 ent.k) ent.k .dead).put (some ent.it) (.val .adr g)
def Z3t {X E R : Type} (f : X → Option E → Option (X ⊕ R)) : List E → X → Option R
 | [], x => (match f x none with
  | some (.inr r) => some r
  | _ => none)
 | e :: l, x => (match f x (some e) with
  | some (.inl x') => Z3t f l x'
  | some (.inr r) => some r
  | none => none)
noncomputable def Zf5 {X E R : Type} (f : X → Option E → Option (X ⊕ R)) (es : List E) (x : X) : Option R := by
 classical exact if h : ∃ r, ∀ l, List.Perm l es → Z3t f l x = some r then some (Classical.choose h) else none
theorem Zf4 {X E R : Type} {f : X → Option E → Option (X ⊕ R)} {es : List E} {x : X} {r : R} (h : Zf5 f es x = some r) : ∀ l, List.Perm l es → Z3t f l x = some r := by
 unfold Zf5 at h
 split at h
 ·rename_i hx
  cases h
  exact Classical.choose_spec hx
 ·cases h
theorem Zj4 {X E R : Type} {f : X → Option E → Option (X ⊕ R)} {es : List E} {x : X} {r : R} (h : ∀ l, List.Perm l es → Z3t f l x = some r) : Zf5 f es x = some r := by
 have hx : ∃ r, ∀ l, List.Perm l es → Z3t f l x = some r := ⟨r, h⟩
 unfold Zf5
 rw [dif_pos hx]
 have h1 := Classical.choose_spec hx es (.refl _)
 rw [h es (.refl _)] at h1
 exact h1.symm
def deadAt : List OB → Nat → Bool
 | [], _ => false
 | .dead :: _, 0 => true
 | _ :: r, k + 1 => deadAt r k
 | _ :: _, 0 => false
def noSl : List (Nat × SK) → Nat → Bool
 | [], _ => true
 | p :: r, i => !decide (p.1 = i) && noSl r i
noncomputable def runM {β : Type} (C : Cx) (ent : EntM) (K : Exit → TSt → Option β) (s : TSt) : Option β := match tget s.env ent.it with
 | .nm id [] => (match nth s.heap id with
  | some (.iter t' es) => (match Zn (.slice (.pair .str ent.t)) (.slice (.pair .str t')) es, ent.t.scal && deadAt ent.car.objs id && decide (ent.k = id) && noSl ent.inv ent.it with
   | some es, true => (match preF C.TY ent.pre (s.subAll (Z16 id) id .dead) with
    | some s => renF 0 ent.car.slots s fun s => (match Z1l s.env ent.inv, asTL [] (slotTys ent.inv) (Zc s.env ent.inv) with
     | true, some iv => decS ent.car s fun x => ob (Zf5 (ent.step iv) es x) fun r => Zjw ent.exits r fun e sh a => K e (encS sh a (encI ent.inv iv))
     | _, _ => none)
    | none => none)
   | _, _ => none)
  | _ => none)
 | _ => none
def Zf2 (n it : Nat) (o : Oper) : Option Nat := match o.guard, o.op, o.dst with
 | none, .next (.tmp i) false, some d => (match decide (i = it) && decide (d < n) && !decide (d = it) with | true => some d | false => none)
 | _, _, _ => none
def Zhm (n it : Nat) (o : Oper) : Option Nat := match o.guard, o.op, o.dst with
 | none, .entry (.tmp i), some d => (match decide (i = it) && decide (d < n) && !decide (d = it) with | true => some d | false => none)
 | _, _, _ => none
structure EntR where
 inv : List (Nat × SK)
 sl : List (Nat × SK)
 obs : List OB
 outs : List OB
 it : Nat
 fn : Nat
 t : Ty
 pi : Nat
 pv : Nat
 step : denL (slotTys inv) → denL (Shape.tys ⟨sl, obs⟩) → Int → t.den → Option (denL (Shape.tys ⟨sl, obs⟩) ⊕ denL (Shape.tys ⟨sl, outs⟩))
def EntR.head (ent : EntR) (iv : denL (slotTys ent.inv)) (x : denL (Shape.tys ⟨ent.sl, ent.obs⟩)) (i : Int) (v : ent.t.den) : TSt := encS ⟨ent.sl, ent.obs⟩ x ((ent.pi, .val (.int .i64) i) :: (ent.pv, .val ent.t v) :: encI ent.inv iv)
noncomputable def EntR.kd (ent : EntR) (e : Exit) (s : TSt) : Option (denL (Shape.tys ⟨ent.sl, ent.obs⟩) ⊕ denL (Shape.tys ⟨ent.sl, ent.outs⟩)) := match e with
 | .normal => decS ⟨ent.sl, ent.obs⟩ s fun x => some (.inl x)
 | .ret => decS ⟨ent.sl, ent.outs⟩ s fun y => some (.inr y)
 | _ => none
def Z6b {X E R : Type} (f : X → Int → E → Option (X ⊕ R)) : List E → X → Option (X ⊕ R)
 | [], x => some (.inl x)
 | e :: r, x => (match f x (r.length : Int) e with
  | none => none
  | some (.inl x') => Z6b f r x'
  | some (.inr y) => some (.inr y))
def ptrsB : List (Nat × SK) → Bool
 | [] => true
 | (_, .ptr _ _) :: r => ptrsB r
 | _ :: _ => false
def boxesB : List OB → Bool
 | [] => true
 | .box _ _ :: r => boxesB r
 | .dead :: r => boxesB r
 | _ :: _ => false
def OB.isD : OB → Bool
 | .dead => true
 | _ => false
def EntR.fits (ent : EntR) (m : Nat) : Bool := boxesB ent.obs && boxesB ent.outs && noSl ent.sl ent.it && ptrsB ent.sl && Nat.ble m ent.obs.length && decide (ent.outs.map OB.isD = ent.obs.map OB.isD) && noSl ent.inv ent.pi && noSl ent.inv ent.pv && noSl ent.sl ent.pi && noSl ent.sl ent.pv && !decide (ent.pi = ent.pv)
noncomputable def runR {β : Type} (C : Cx) (ent : EntR) (K : Exit → TSt → Option β) (s : TSt) : Option β := match tget s.env ent.it with
 | .val (.clo f (.ref (.slice t'))) xs => (match Zn (.slice ent.t) (.slice t') xs, decide (f = ent.fn) && Z1l s.env ent.inv, asTL [] (slotTys ent.inv) (Zc s.env ent.inv) with
  | some xs, true, some iv => ck ((xs.length : Int) ≤ 9223372036854775807) (decS ⟨ent.sl, ent.obs⟩ s fun x => ob (Z6b (ent.step iv) xs.reverse x) fun r => Z1g r (fun x => K .normal (encS ⟨ent.sl, ent.obs⟩ x (encI ent.inv iv))) (fun y => K .ret (encS ⟨ent.sl, ent.outs⟩ y (encI ent.inv iv))))
  | _, _, _ => none)
 | _ => none
inductive LE where
 | w (e : Ent)
 | m (e : EntM)
 | r (e : EntR)
instance : Coe Ent LE := ⟨.w⟩
instance : Coe EntM LE := ⟨.m⟩
instance : Coe EntR LE := ⟨.r⟩
noncomputable def exF {β : Type} (C : Cx) (L : List Nat → Option LE) : Code → List Nat → (Exit → TSt → Option β) → TSt → Option β
 | .skip, _, K, s => K .normal s
 | .region id ops drawn, _, K, s => (match drawn with
  | false => Z2k C ops.toList ops.toList (K .normal) s
  | true => (match C.D id with
   | some d => (match regB ops d with
    | true => Zk8 C ops.toList d (K .normal) s
    | false => none)
   | none => (match C.DP id with
    | some d => (match regP C.T ops d with
     | true => Zu C ops.toList (Z2k C ops.toList (Z88 ops.toList d.1) (K .normal)) d.2 s
     | false => none)
    | none => none)))
 | .seq a b, p, K, s => exF C L a (0 :: p) (fun e s => match e with
  | .normal => exF C L b (1 :: p) K s
  | e => K e s) s
 | .cond c a b, p, K, s => (match (s.ev c).boo with
  | some t => cb t (exF C L a (0 :: p) K s) (exF C L b (1 :: p) K s)
  | none => none)
 | .block id b, p, K, s => exF C L b (0 :: p) (fun e s => match e with
  | .exit i => (match decide (i = id) with
   | true => K .normal s
   | false => K (.exit i) s)
  | e => K e s) s
 | .exit id, _, K, s => K (.exit id) s
 | .ret, _, K, s => K .ret s
 | .loop b, p, K, s => (match L p with
  | some (.w ent) => runL C ent K s
  | some (.m ent) => runM C ent K s
  | _ => none)
 | .rangeFunc _ _ _ _, p, K, s => (match L p with
  | some (.r ent) => runR C ent K s
  | _ => none)
 | _, _, _, _ => none
def isAdr : SV → Bool
 | .val .adr _ => true
 | _ => false
def Z7l {t : Ty} : Option (ByteArray × t.den) → SV
 | none => .tup [.val .bool false]
 | some e => .tup [.val .bool true, .val .str e.1, .val t e.2]
noncomputable def exMF {β : Type} (C : Cx) (L : List Nat → Option LE) (ent : EntM) (p : List Nat) (kd : Exit → TSt → Option β) (e : Option (ByteArray × ent.t.den)) : Code → TSt → Option β
 | .seq (.region _ ops1 false) (.seq (.cond c .skip (.exit out)) (.block nx (.seq (.region _ ops2 false) code))), s =>
  (match ops1.toList, ops2.toList with
  | o1 :: rest1, oe :: rest2 => (match Zf2 C.n ent.it o1, Zhm C.n ent.it oe with
   | some n, some pr => Z2k C (o1 :: rest1) rest1 (fun s => (match (s.ev c).boo, e, isAdr (tget s.env ent.it) with
    | some true, some e, true => Z2k C (oe :: rest2) rest2 (fun s => exF C L code (1 :: 0 :: 1 :: 1 :: p) (fun ex s => match ex with
     | .exit i => (match decide (i = nx) with
      | true => kd .normal s
      | false => kd (.exit i) s)
     | ex => kd ex s) s) (s.put (some pr) (.tup [.val .str e.1, .val ent.t e.2]))
    | some false, none, _ => kd (.exit out) s
    | _, _, _ => none)) (s.put (some n) (Z7l e))
   | _, _ => none)
  | _, _ => none)
 | _, _ => none
end Go.Proofs.YtplgphblmeceoaaGreatDoor.Eng
