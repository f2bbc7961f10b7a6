/-
  Typed values over the abstract states, second part: an evaluator of code, which the kernel runs, and its soundness. No condition; nothing here is trusted.
-/
import Derived.Test.YtnehieeplbgaiacDoorTypA
import Derived.Test.YtnehieeplbgaiacDoorEngB
set_option linter.unusedVariables false
set_option linter.unusedSimpArgs false
namespace Go.Proofs.YtnehieeplbgaiacDoor.Eng
open Go Go.RowKit
section
variable {P : Program} {C : Cx} {X : Ctx} {σ σ' : Nat → Option Blk} {F F' : Nat → Prop} {a : Act} {w w' : World} {s s' : TSt} {o : Oper}
theorem Zw {f : AV → AV} {g : SV → SV} {id : Nat} {ob : TObj} {oa : AObj} (ok : SubOK f g s.heap (s.subAll g id ob).heap) (hob : ObjLe oa (ob.toObj (s.subAll g id ob).heap)) : StLe ⟨Zo f s.toSt.env, (s.toSt.heap.map (AObj.sub f)).set id oa⟩ (s.subAll g id ob).toSt := by
 refine ⟨fun i => ?_, ?_, fun i o o' ho ho' => ?_⟩
 ·simp only [Zn, TSt.toSt, Zf, TSt.subAll]
  rw [Z1t (SV.sub g) rfl]
  exact Z8f ok _
 ·simp [TSt.toSt, TSt.subAll, setH_eq]
 ·simp only [TSt.toSt, TSt.subAll, setH_eq, List.getElem?_map] at ho ho'
  by_cases hi : i = id
  ·subst hi
   by_cases hlt : i < s.heap.length
   ·rw [List.getElem?_set_self (by simpa using hlt)] at ho
    rw [List.getElem?_set_self (by simpa using hlt), Option.map_some] at ho'
    cases ho; cases ho'
    simpa only [TSt.subAll, setH_eq] using hob
   ·rw [List.getElem?_eq_none (by simp; omega)] at ho; cases ho
  ·rw [List.getElem?_set_ne (by omega), List.getElem?_map, List.getElem?_map] at ho
   rw [List.getElem?_set_ne (by omega), List.getElem?_map] at ho'
   cases hq : s.heap[i]? with
   | none => rw [hq] at ho; cases ho
   | some q =>
    rw [hq, Option.map_some, Option.map_some] at ho
    rw [hq, Option.map_some, Option.map_some] at ho'
    cases ho; cases ho'
    cases q with
    | box e cs => exact ⟨rfl, by simpa only [TSt.subAll, setH_eq] using Z3y ok cs⟩
    | row e t xs => exact ObjLe.refl _
    | mapo t es => exact ObjLe.refl _
    | iter t es => exact ObjLe.refl _
    | lin e ei t part hole xs => exact ObjLe.refl _
    | dead => trivial
theorem StLe.trans {s1 s2 s3 : St} (h : StLe s1 s2) (k : StLe s2 s3) (heq : ∀ (i : Nat), s1.heap[i]? = s2.heap[i]?) (henv : ∀ i, envGet s1.env i = envGet s2.env i) : StLe s1 s3 :=
 ⟨fun i => by rw [henv]; exact k.1 i, h.2.1.trans k.2.1, fun i o o' h1 h2 => k.2.2 i o o' (by rw [← heq]; exact h1) h2⟩
theorem Zjj {t : Nat} (h : isSeq C t = true) : (∃ e' m' p' z', C.T t = some ⟨.slice e', m', p', z'⟩) ∨ ∃ m' p' z', C.T t = some ⟨.str, m', p', z'⟩ := by
 unfold isSeq at h
 split at h
 ·rename_i ht; exact .inl ⟨_, _, _, _, ht⟩
 ·rename_i ht; exact .inr ⟨_, _, _, ht⟩
 ·cases h
theorem Zcg (hT : Zh P C.T) (hm : X.m = C.m) (hd : dOK X.n o.dst) {t t' : Nat} {y z : Operand} (ho : o.op = .call { callee := .builtin .append, args := #[y, z], argTypes := #[t, t'] }) : Tell2 P X o s (appendT C s t t' (s.ev y) (s.ev z)) := by
 unfold appendT
 split
 ·rename_i e i u he hseq
  obtain ⟨⟨m, p, z', ht⟩, hi, hu, hb⟩ := Z5m he
  have hseq' := Zjj hseq
  have hpos : 0 < i.size := by rw [← hu]; exact u.size_pos
  split
  ·rename_i news hnews
   obtain ⟨c, hz, hc⟩ := Zjb hnews
   rw [← TSt.ev_ok] at hz
   split
   ·rename_i hy
    refine ⟨(Zx _).trans (PureSame.subAll _ _ _ _), fun hfit K hK => opWP.wf fun hw => ?_⟩
    have hlen : s.toSt.heap.length = s.heap.length := by simp [TSt.toSt]
    obtain ⟨h1, h2⟩ := Z99 hw (.row e u []) (fun e' cs h => by cases h)
    have hle : StLe (St.appended { s.toSt with heap := s.toSt.heap ++ [.row e i.size []] } s.toSt.heap.length (.row e i.size (news.map u.cells))) ((s.push (.row e u [])).subAll (Zk s.heap.length) s.heap.length (.row e u news)).toSt := by
     have h3 := Zw (s := s.push (.row e u [])) (f := Z5 s.heap.length) (g := Zk s.heap.length) (id := s.heap.length) (ob := .row e u news) (oa := .row e i.size (news.map u.cells)) Z1i ⟨rfl, hu.symm, rfl, fun j cs ds a b => by rw [a] at b; cases b; exact leL_refl _⟩
     refine ⟨fun j => ?_, ?_, fun j o1 o2 ho1 ho2 => ?_⟩
     ·have := h3.1 j
      simp only [Zn] at this
      simp only [St.appended, Zn, hlen]
      rw [← h2 j]
      exact this
     ·rw [← h3.2.1]; simp [St.appended, TSt.push, TSt.toSt]
     ·refine h3.2.2 j o1 o2 ?_ ho2
      simp only [St.appended, hlen] at ho1
      simp only [TSt.push]
      rw [h1]
      rw [← ho1, ← hu]
      rfl
    refine opT.of (fun K' hK' => Z9m ho hT ht hi hseq' (by rw [TSt.ev_ok, hy]; rfl) (by rw [← hu]; exact hz) hc hpos hb (by simpa using hfit) hd hK') hle ?_ hK
    simp only [SV.toAV]
    rw [Z4 (e := e) (t := u) (xs := news) (by rw [Z3]; simp [TSt.push, TSt.subAll, setH_eq]), hlen, hu, List.length_map]
    exact .refl _
   ·rename_i id sz hy
    split
    ·rename_i e' u' xs0 hq
     split
     ·rename_i xs hxs
      split
      ·rename_i hcc
       obtain ⟨rfl, rfl, hmi⟩ := hcc
       obtain ⟨e1, h9⟩ := Za hxs
       injection e1 with e1
       subst e1
       obtain rfl : xs0 = xs := h9
       refine ⟨PureSame.subAll _ _ _ _, fun hfit K hK => ?_⟩
       have hq' : s.toSt.heap[id]? = some (.row e' i.size (List.map u'.cells xs0)) := by rw [TSt.heap_get, hq, ← hu]; rfl
       have hle : StLe (St.appended s.toSt id (.row e' i.size ((List.map u'.cells xs0).drop 0 ++ news.map u'.cells))) (s.subAll (Zk id) id (.row e' u' (catL xs0 news))).toSt :=
        Zw (f := Z5 id) (g := Zk id) (id := id) (ob := .row e' u' (catL xs0 news)) (oa := .row e' i.size ((List.map u'.cells xs0).drop 0 ++ news.map u'.cells)) Z1i (by
         have e2 : (List.map u'.cells xs0).drop 0 ++ news.map u'.cells = (catL xs0 news).map u'.cells := by simp [catL]
         rw [e2, ← hu]; exact ObjLe.refl _)
       refine opT.of (fun K' hK' => Zbh ho hT ht hi hseq' (by rw [TSt.ev_ok, hy]; simp only [SV.toAV]; rw [Z4 hq, hu]) hq' (by rw [Nat.zero_add, Z3u (u := u') xs0]) (by rw [← hu]; exact hz) hc hpos hb (by simpa using hfit) (by omega) hd hK') hle ?_ hK
       simp only [SV.toAV]
       have hid : id < s.heap.length := by rw [Z3] at hq; exact (List.getElem?_eq_some_iff.1 hq).1
       rw [Z4 (e := e') (t := u') (xs := catL xs0 news) (by rw [Z3]; simp [TSt.subAll, setH_eq, hid]), hu]
       have e3 : (catL xs0 news).length = List.length xs0 + (news.map u'.cells).length := by simp [catL]
       rw [e3]
       exact .refl _
      ·trivial
     ·trivial
    ·trivial
   ·rename_i id sz off len hy
    split
    ·rename_i e' u' xs0 hq
     split
     ·rename_i xs hxs
      split
      ·rename_i hcc
       obtain ⟨rfl, rfl, hmi⟩ := hcc
       obtain ⟨e1, h9⟩ := Za hxs
       injection e1 with e1
       subst e1
       obtain rfl : xs0 = xs := h9
       refine ⟨PureSame.subAll _ _ _ _, fun hfit K hK => ?_⟩
       have hq' : s.toSt.heap[id]? = some (.row e' i.size (List.map u'.cells xs0)) := by rw [TSt.heap_get, hq, ← hu]; rfl
       have hle : StLe (St.appended s.toSt id (.row e' i.size ((List.map u'.cells xs0).drop off ++ news.map u'.cells))) (s.subAll (Zk id) id (.row e' u' (catL (List.drop off xs0) news))).toSt :=
        Zw (f := Z5 id) (g := Zk id) (id := id) (ob := .row e' u' (catL (List.drop off xs0) news)) (oa := .row e' i.size ((List.map u'.cells xs0).drop off ++ news.map u'.cells)) Z1i (by
         have e2 : (List.map u'.cells xs0).drop off ++ news.map u'.cells = (catL (List.drop off xs0) news).map u'.cells := by simp only [catL, List.map_append]; congr 1; exact (List.map_drop ..).symm
         rw [e2, ← hu]; exact ObjLe.refl _)
       refine opT.of (fun K' hK' => Zbh ho hT ht hi hseq' (by rw [TSt.ev_ok, hy]; simp only [SV.toAV]; rw [hu]) hq' (by rw [Z3u (u := u') xs0]; exact hfit.1) (by rw [← hu]; exact hz) hc hpos hb (by simpa using hfit.2) (by omega) hd hK') hle ?_ hK
       simp only [SV.toAV]
       have hid : id < s.heap.length := by rw [Z3] at hq; exact (List.getElem?_eq_some_iff.1 hq).1
       rw [Z4 (e := e') (t := u') (xs := catL (List.drop off xs0) news) (by rw [Z3]; simp [TSt.subAll, setH_eq, hid]), hu]
       have e3 : (catL (List.drop off xs0) news).length = len + (news.map u'.cells).length := by
        have e4 : (List.drop off xs0).length = List.length xs0 - off := List.length_drop ..
        simp only [catL, List.length_append, List.length_map]
        rw [e4]; omega
       rw [e3]
       exact .refl _
      ·trivial
     ·trivial
    ·trivial
   ·trivial
  ·trivial
 ·rename_i e i u he _
  obtain ⟨⟨m, p, z', ht⟩, hi, hu, hb⟩ := Z5m he
  split
  ·rename_i k q ht' hny hn
   split
   ·rename_i hz
    refine ⟨Zx _, fun hc K hK => opWP.wf fun hw => ?_⟩
    have hlen : s.toSt.heap.length = s.heap.length := by simp [TSt.toSt]
    have hzv : s.toSt.ev z = .v (.int k q) := by rw [TSt.ev_ok, Z17 hn]
    have hy : s.toSt.ev y = .v (.slice none 0 0) := by
     unfold isNilS at hny
     split at hny
     ·rename_i hx2; rw [TSt.ev_ok, hx2]; rfl
     ·cases hny
    refine (opTG.of (fun K' hK' => Z8b ho hT ht hi ht' hy hzv (by rw [← hu]; exact u.size_pos) hb hc.1 hc.2 hd hK') (Z6f hw (ob := .row e u (List.replicate q.toNat u.d)) (fun e' cs h => by cases h) ⟨rfl, hu.symm, by simp, fun j cs ds hj hj' => ?_⟩) ?_ hK).wp
    ·rw [List.getElem?_replicate] at hj
     rw [List.map_replicate, List.getElem?_replicate] at hj'
     split at hj
     ·rename_i hlt
      rw [if_pos hlt] at hj'
      cases hj; cases hj'
      exact zeroB_ok u _ hz
     ·cases hj
    ·simp only [SV.toAV]
     rw [Z4 (e := e) (t := u) (xs := List.replicate q.toNat u.d) (by rw [Z3]; simp [TSt.push]), hlen, hu, List.length_replicate]
     exact .refl _
   ·trivial
  ·trivial
 ·trivial
end
end Go.Proofs.YtnehieeplbgaiacDoor.Eng
set_option linter.unusedVariables false
set_option linter.unusedSimpArgs false
namespace Go.Proofs.YtnehieeplbgaiacDoor.Eng
open Go Go.RowKit
mutual
theorem Zcu {h h' : List TObj} {n : Nat} (hr : ∀ id, id < n → rowLen h id = rowLen h' id) : ∀ x : SV, x.idsLt n → x.toAV h = x.toAV h'
 | .own id sz, hb => by simp only [SV.toAV]; rw [hr id hb]
 | .cut _ _ _ _, _ => rfl
 | .ptr _ _ _ _, _ => rfl
 | .nm _ _, _ => rfl
 | .agg cs, hb => by simp only [SV.toAV]; rw [Z48 hr cs hb]
 | .tup cs, hb => by simp only [SV.toAV]; rw [Z48 hr cs hb]
 | .fn _ cs, hb => by simp only [SV.toAV]; rw [Z48 hr cs hb]
 | .any, _ | .cst _, _ | .val _ _, _ | .rp _ _, _ => rfl
theorem Z48 {h h' : List TObj} {n : Nat} (hr : ∀ id, id < n → rowLen h id = rowLen h' id) : ∀ l : List SV, SV.idsLtL n l → SV.toAVL h l = SV.toAVL h' l
 | [], _ => rfl
 | x :: r, hb => by simp only [SV.toAVL]; rw [Zcu hr x hb.1, Z48 hr r hb.2]
end
theorem Ze5 {id n : Nat} : ∀ x : SV, x.idsLt n → (Z1z id x).idsLt n := by
 intro x h
 unfold Z1z
 split
 ·split
  ·trivial
  ·exact h
 ·split
  ·trivial
  ·exact h
 ·split
  ·trivial
  ·exact h
 ·split
  ·split
   ·exact h
   ·exact h
   ·trivial
  ·exact h
 ·exact h
mutual
theorem Zbx {g : SV → SV} {n : Nat} (hg : ∀ x : SV, x.idsLt n → (g x).idsLt n) : ∀ {x : SV}, x.idsLt n → (x.sub g).idsLt n
 | .own _ _, h | .cut _ _ _ _, h | .ptr _ _ _ _, h | .nm _ _, h => hg _ h
 | .agg cs, h => Z35 hg h
 | .tup cs, h => Z35 hg h
 | .fn _ cs, h => Z35 hg h
 | .any, h | .cst _, h | .val _ _, h | .rp _ _, h => h
theorem Z35 {g : SV → SV} {n : Nat} (hg : ∀ x : SV, x.idsLt n → (g x).idsLt n) : ∀ {l : List SV}, SV.idsLtL n l → SV.idsLtL n (SV.subL g l)
 | [], _ => trivial
 | x :: r, h => ⟨Zbx hg h.1, Z35 hg h.2⟩
end
section
variable {P : Program} {C : Cx} {X : Ctx} {o : Oper} {s s' : TSt}
theorem Zdp {id : Nat} {ob : TObj} : SubOK (Z3n id) (Z1z id) s.heap (s.subAll (Z1z id) id ob).heap := by
 refine ⟨fun i sz => ?_, fun i sz off len => ?_, fun i k sz j => ?_, fun i k => ?_⟩
 ·simp only [Z3n, Z1z]
  by_cases h : i = id
  ·rw [if_pos h, if_pos h]; exact .refl _
  ·rw [if_neg h, if_neg h]
   simp only [SV.toAV, TSt.subAll]
   rw [Z2a h]; exact .refl _
 ·simp only [Z3n, Z1z]
  by_cases h : i = id
  ·rw [if_pos h, if_pos h]; exact .refl _
  ·rw [if_neg h, if_neg h]; exact .refl _
 ·simp only [Z3n, Z1z]
  by_cases h : i = id
  ·rw [if_pos h, if_pos h]; exact .refl _
  ·rw [if_neg h, if_neg h]; exact .refl _
 ·simp only [Z3n, Z1z]
  by_cases h : i = id
  ·rw [if_pos h, if_pos h]
   rcases k with _ | ⟨_ | _ | _ | n, _ | ⟨x, _ | ⟨y, _ | ⟨z, r⟩⟩⟩⟩ <;> exact .refl _
  ·rw [if_neg h, if_neg h]; exact .refl _
theorem AV.le_sub {f : AV → AV} {x y : AV} (h : AV.le x y) : AV.le (x.sub f) (y.sub f) := by
 have lift : ∀ {cs ds : List AV}, (∀ (j : Nat) (x y : AV), cs[j]? = some x → ds[j]? = some y → AV.le (x.sub f) (y.sub f)) → ∀ (j : Nat) (x y : AV), (AV.subL f cs)[j]? = some x → (AV.subL f ds)[j]? = some y → AV.le x y := by
  intro cs ds h j x y hx hy
  rw [AV.subL_eq, List.getElem?_map, Option.map_eq_some_iff] at hx hy
  obtain ⟨x', hx', rfl⟩ := hx
  obtain ⟨y', hy', rfl⟩ := hy
  exact h j x' y' hx' hy'
 induction h with
 | refl x => exact .refl _
 | any x => exact .any _
 | nilro sz a c => exact .nilro sz a c
 | nilmp => exact .nilmp
 | rpLe cs ds hl h ih => exact .rpLe cs ds hl h
 | rpTake cs n => exact .rpTake cs n
 | fn g cs ds hl h ih => exact .fn g _ _ (by rw [AV.subL_eq, AV.subL_eq, List.length_map, List.length_map]; exact hl) (lift ih)
 | agg cs ds hl h ih => exact .agg _ _ (by rw [AV.subL_eq, AV.subL_eq, List.length_map, List.length_map]; exact hl) (lift ih)
 | tup cs ds hl h ih => exact .tup _ _ (by rw [AV.subL_eq, AV.subL_eq, List.length_map, List.length_map]; exact hl) (lift ih)
theorem Zh1 {f : AV → AV} : ∀ {cs ds : List AV}, AV.leL cs ds → AV.leL (cs.map (AV.sub f)) (ds.map (AV.sub f))
 | [], [], _ => trivial
 | x :: cs, y :: ds, h => ⟨AV.le_sub h.1, Zh1 h.2⟩
 | [], _ :: _, h => h.elim
 | _ :: _, [], h => h.elim
theorem ObjLe.sub {f : AV → AV} {o o' : AObj} (h : ObjLe o o') : ObjLe (o.sub f) (o'.sub f) := by
 cases o <;> cases o' <;> first | exact h.elim | exact h | (cases h; done) | exact ⟨h.1, Zh1 h.2⟩
theorem StLe.sub {A B : St} (h : StLe A B) (f : AV → AV) (id : Nat) (oa : AObj) : StLe ⟨Zo f A.env, (A.heap.map (AObj.sub f)).set id oa⟩ ⟨Zo f B.env, (B.heap.map (AObj.sub f)).set id oa⟩ := by
 refine ⟨fun i => by rw [Zn, Zn]; exact AV.le_sub (h.1 i), by simp [h.2.1], fun i o o' ho ho' => ?_⟩
 by_cases hi : i = id
 ·subst hi
  by_cases hl : i < A.heap.length
  ·rw [List.getElem?_set_self (by simpa using hl)] at ho
   rw [List.getElem?_set_self (by simpa [← h.2.1] using hl)] at ho'
   cases ho; cases ho'; exact ObjLe.refl _
  ·rw [List.getElem?_eq_none (by simp; omega)] at ho; cases ho
 ·rw [List.getElem?_set_ne (by omega), List.getElem?_map, Option.map_eq_some_iff] at ho ho'
  obtain ⟨q, hq, rfl⟩ := ho
  obtain ⟨q', hq', rfl⟩ := ho'
  exact (h.2.2 i q q' hq hq').sub
theorem setInn_ok : ∀ (t : Ty) (x : t.den) {u : Ty} {l : List u.den} {y : t.den}, setInn t x u l = some y → t.inn = some u ∧ ∃ cs z, t.cells x = cs ++ [z] ∧ t.cells y = cs ++ [.ro u.size (l.map u.cells)]
 | .slice v, x, u, l, y, h => by
  obtain ⟨e, h2⟩ := Za h
  injection e with e
  subst e
  have h3 : l = y := h2
  subst h3
  exact ⟨rfl, [], _, rfl, rfl⟩
 | .one t, x, u, l, y, h => setInn_ok t x h
 | .pair a b, x, u, l, y, h => by
  simp only [setInn] at h
  split at h
  ·rename_i y2 h2
   cases h
   obtain ⟨h3, cs, z, h4, h5⟩ := setInn_ok b x.2 h2
   exact ⟨h3, a.cells x.1 ++ cs, z, by show a.cells x.1 ++ b.cells x.2 = _; rw [h4, List.append_assoc], by show a.cells x.1 ++ b.cells y2 = _; rw [h5, List.append_assoc]⟩
  ·cases h
 | .int _, _, _, _, _, h | .byte, _, _, _, _, h | .bool, _, _, _, _, h | .str, _, _, _, _, h | .ptr _, _, _, _, _, h | .nilS, _, _, _, _, h | .nilI, _, _, _, _, h | .adr, _, _, _, _, h | .mp _, _, _, _, _, h | .mq _, _, _, _, _, h | .fnc _, _, _, _, _, h | .clo _ _, _, _, _, _, h | .ref _, _, _, _, _, h => by cases h
theorem Zg9 {t : Ty} {x : t.den} {u : Ty} {l : List u.den} {y : t.den} (h : setInn t x u l = some y) : t.isz = u.size ∧ t.cells y = Z16 (t.cells x) (.ro u.size (l.map u.cells)) := by
 obtain ⟨h1, cs, z, h2, h3⟩ := setInn_ok t x h
 refine ⟨by unfold Ty.isz; rw [h1], ?_⟩
 unfold Z16
 rw [h2, h3, List.dropLast_concat]
theorem Zff {t : Ty} {xs : List t.den} {n : Nat} (hn : n < xs.length) : Z2 (xs.map t.cells) n = t.cells (List.getD xs n t.d) := by
 simp [Z2, List.getElem?_map, List.getElem?_eq_getElem hn, List.getD]
theorem Zcw (hT : Zh P C.T) (hm : X.m = C.m) (hd : dOK X.n o.dst) {t id n j : Nat} {y z : Operand} (ho : o.op = .store t y z) (hy : s.ev y = .nm id [2, n, j]) : Tell2 P X o s (Z76 C s t id n j (s.ev z)) := by
 unfold Z76
 split
 ·rename_i i id2 sz hi hz
  split
  ·rename_i e2 u l e ei t0 part hole xs hq2 hq
   split
   ·rename_i y0 hset
    split
    ·rename_i hcc
     obtain ⟨rfl, rfl, hs1, hj, hmi⟩ := hcc
     obtain ⟨i1, i2⟩ := Zg9 hset
     have hq2' : s.toSt.heap[id2]? = some (.row e2 u.size (List.map u.cells l)) := by rw [TSt.heap_get, hq2]; rfl
     have hq' := Z1m (h := s.heap) hq
     rw [i1] at hq'
     have hzv : s.toSt.ev z = .own id2 u.size 0 (List.map u.cells l).length := by rw [TSt.ev_ok, hz]; simp only [SV.toAV]; rw [Z4 hq2, Z3u (u := u) l]
     have hyv : s.toSt.ev y = .nm id [2, n, j] := by rw [TSt.ev_ok, hy]; rfl
     have go : ∀ (part' : Option Nat), n < List.length xs → ((part = none ∧ hole = some n ∧ part' = none) ∨ (part = some n ∧ hole = none ∧ n < List.length xs ∧ part' = some (n + 1))) → ∀ K : TSt → Prop, K (TSt.put ((s.subAll (Zk id2) id2 .dead).subAll (Z1z id) id (.lin e e2 t0 part' none (List.set xs n y0))) o.dst .any) → opT P X o K s := by
      intro part' hn hcase K hK
      have k1 := Zw (s := s) (f := Z5 id2) (g := Zk id2) (id := id2) (ob := .dead) (oa := .dead) Z1i (ObjLe.refl .dead)
      have hob : (xs.map t0.cells).set n (Z16 (Z2 (xs.map t0.cells) n) (.ro u.size (List.map u.cells l))) = (List.set xs n y0).map t0.cells := by
       rw [Zff hn, ← i2, List.map_set]
      have k2 := k1.sub (Z3n id) id (.lin e e2 t0.size u.size part' none ((List.set xs n y0).map t0.cells))
      have k3 := Zw (s := s.subAll (Zk id2) id2 .dead) (f := Z3n id) (g := Z1z id) (id := id) (ob := .lin e e2 t0 part' none (List.set xs n y0)) (oa := .lin e e2 t0.size u.size part' none ((List.set xs n y0).map t0.cells)) Zdp (by rw [← i1]; exact ObjLe.refl _)
      refine Zbe ho hT hi hs1 hyv hzv hq' hq2' hj (by simpa using hcase) (by omega) hd ⟨_, ?_, hK⟩
      rw [hob, TSt.put_ok]
      exact (StLe.put k2 (.refl _) _).imp.trans (StLe.put k3 (.refl _) _).imp
     split
     ·rename_i q
      refine ⟨(PureSame.subAll _ _ _ _).trans (PureSame.subAll _ _ _ _), fun hc K hK => ?_⟩
      obtain ⟨rfl, hn⟩ := hc
      exact go none hn (.inl ⟨rfl, rfl, rfl⟩) K hK
     ·rename_i c
      refine ⟨(PureSame.subAll _ _ _ _).trans (PureSame.subAll _ _ _ _), fun hc K hK => ?_⟩
      obtain ⟨rfl, hn⟩ := hc
      exact go (some (c + 1)) hn (.inr ⟨rfl, rfl, hn, rfl⟩) K hK
     ·trivial
    ·trivial
   ·trivial
  ·trivial
 ·trivial
theorem Z4m {d id e ei q : Nat} {t u : Ty} {xs : List t.den} {l : List u.den} {k : List Nat} (hd : tget s.env d = .nm id k) : PureSame s (Z10 s d id e ei q t u xs l) := by
 have h := PureSame.subAll s (Z1z id) id (.lin e ei t none (some q) xs)
 intro i
 by_cases hi : i = d
 ·subst hi
  refine ⟨fun h => ?_, fun _ _ h => ?_, fun _ _ h => ?_, fun _ h => ?_⟩ <;> (rw [hd] at h; cases h)
 ·simp only [Z10, tget, if_neg hi]
  exact h i
theorem Zc6 (hm : X.m = C.m) {d id e ei q : Nat} {t u : Ty} {xs : List t.den} {l : List u.den} (hd : tget s.env d = .nm id [1, q]) (hq : nth s.heap id = some (.lin e ei t none none xs)) (hin : innT t (List.getD xs q t.d) = some ⟨u, l⟩) (hql : q < List.length xs) (hmi : C.m ≤ id) : Imp X s.toSt (Z10 s d id e ei q t u xs l).toSt := by
 rintro a w ⟨σ, F, hr⟩
 have hq' := Z1m (h := s.heap) hq
 obtain ⟨i1, i2⟩ := Z5h hin
 rw [i1] at hq'
 have hd' : envGet s.toSt.env d = .nm id [1, q] := by simp only [TSt.toSt, Zf]; rw [hd]; rfl
 obtain ⟨σ', h1⟩ := hr.carve hd' hq' (by simpa using hql) (by omega)
 rw [i2] at h1
 refine Rep.weak (s := _) ?_ ⟨σ', F, h1⟩
 have k5 := Zw (s := s) (f := Z3n id) (g := Z1z id) (id := id) (ob := .lin e ei t none (some q) xs) (oa := .lin e ei t.size u.size none (some q) (xs.map t.cells)) Zdp (by rw [← i1]; exact ObjLe.refl _)
 have hlen : s.toSt.heap.length = s.heap.length := by simp [TSt.toSt]
 have hrl : ∀ i, i < s.heap.length → rowLen (Z10 s d id e ei q t u xs l).heap i = rowLen (s.subAll (Z1z id) id (.lin e ei t none (some q) xs)).heap i := fun i hi => by
  unfold rowLen
  rw [Z3, Z3]
  simp only [Z10]
  rw [List.getElem?_append_left (by simp [TSt.subAll, setH_eq]; exact hi)]
 have hnewl : rowLen (Z10 s d id e ei q t u xs l).heap s.heap.length = List.length l := by
  unfold rowLen
  rw [Z3]
  simp only [Z10]
  rw [List.getElem?_append_right (by simp [TSt.subAll, setH_eq])]
  simp [TSt.subAll, setH_eq]
 have hwf := Zap hr
 refine ⟨fun i => ?_, ?_, fun i oa ob ho ho' => ?_⟩
 ·simp only [envGet]
  show AV.le _ (envGet (List.map _ _) i)
  rw [Zf]
  simp only [Z10, tget]
  by_cases hi : i = d
  ·rw [if_pos hi, if_pos hi]
   simp only [SV.toAV]
   have e1 := hnewl
   simp only [Z10] at e1
   rw [e1, hlen, List.length_map]
   exact .refl _
  ·rw [if_neg hi, if_neg hi]
   have h2 := k5.1 i
   simp only [TSt.toSt, Zf] at h2
   have h3 : (tget (s.subAll (Z1z id) id (.lin e ei t none (some q) xs)).env i).toAV (s.subAll (Z1z id) id (.lin e ei t none (some q) xs)).heap = (tget (s.subAll (Z1z id) id (.lin e ei t none (some q) xs)).env i).toAV ((s.subAll (Z1z id) id (.lin e ei t none (some q) xs)).heap ++ [.row ei u l]) :=
    Zcu (n := s.heap.length) (fun j hj => (hrl j hj).symm) _ (by
     simp only [TSt.subAll]
     rw [Z1t (SV.sub (Z1z id)) rfl]
     exact Zbx Ze5 (hwf.1 i))
   rw [← h3]
   exact h2
 ·simp [Z10, TSt.subAll, setH_eq, TSt.toSt]
 ·have hll : (List.set (List.map (AObj.sub (Z3n id)) s.toSt.heap) id (.lin e ei t.size u.size none (some q) (xs.map t.cells))).length = s.heap.length := by simp [hlen]
  rcases Nat.lt_or_ge i s.heap.length with hi | hi
  ·rw [List.getElem?_append_left (by rw [hll]; exact hi)] at ho
   simp only [TSt.toSt, List.getElem?_map, Z10] at ho'
   rw [List.getElem?_append_left (by simp [TSt.subAll, setH_eq]; exact hi)] at ho'
   obtain ⟨q0, hq0, rfl⟩ := Option.map_eq_some_iff.1 ho'
   have h2 := k5.2.2 i oa (q0.toObj (s.subAll (Z1z id) id (.lin e ei t none (some q) xs)).heap) ho (by simp only [TSt.toSt, List.getElem?_map, hq0]; rfl)
   have h3 : q0.toObj (s.subAll (Z1z id) id (.lin e ei t none (some q) xs)).heap = q0.toObj ((s.subAll (Z1z id) id (.lin e ei t none (some q) xs)).heap ++ [.row ei u l]) := by
    cases q0 with
    | box eb cs =>
     simp only [TObj.toObj]
     rw [Z48 (n := s.heap.length) (fun j hj => (hrl j hj).symm) cs ?_]
     ·rfl
     ·simp only [TSt.subAll, setH_eq] at hq0
      by_cases hie : i = id
      ·subst hie
       rw [List.getElem?_set_self (by simpa using hi)] at hq0
       cases hq0
      ·rw [List.getElem?_set_ne (by omega), List.getElem?_map] at hq0
       obtain ⟨q1, hq1, hq2⟩ := Option.map_eq_some_iff.1 hq0
       cases q1 with
       | box eb' cs' =>
        simp only [TObj.sub] at hq2
        cases hq2
        exact Z35 Ze5 (hwf.2 i _ _ hq1)
       | _ => simp [TObj.sub] at hq2
    | _ => rfl
   rw [← h3]
   exact h2
  ·have hii : i = s.heap.length := by
    have := (List.getElem?_eq_some_iff.1 ho).1
    simp [hlen] at this
    omega
   subst hii
   rw [List.getElem?_append_right (by rw [hll]; exact Nat.le_refl _), hll, Nat.sub_self] at ho
   simp only [TSt.toSt, List.getElem?_map, Z10] at ho'
   rw [List.getElem?_append_right (by simp [TSt.subAll, setH_eq])] at ho'
   simp [TSt.subAll, setH_eq] at ho ho'
   subst ho ho'
   exact ObjLe.refl _
theorem Zdj (hT : Zh P C.T) (hm : X.m = C.m) (hd : dOK X.n o.dst) {t t' id q : Nat} {y z : Operand} (ho : o.op = .call { callee := .builtin .append, args := #[y, z], argTypes := #[t, t'] }) (hy : s.ev y = .nm id [1, q]) : Tell2 P X o s (Z85 C s t t' y z id q) := by
 unfold Z85
 split
 ·rename_i d e ei t0 xs hq
  split
  ·rename_i u l hin
   split
   ·rename_i hmi
    have ha := Zcg (P := P) (X := X) (s := Z10 s d id e ei q t0 u xs l) (o := o) (C := C) hT hm hd ho
    have hps := Z4m (s := s) (d := d) (id := id) (e := e) (ei := ei) (q := q) (u := u) (xs := xs) (l := l) (k := [1, q]) hy
    revert ha
    generalize appendT C (Z10 s d id e ei q t0 u xs l) t t' ((Z10 s d id e ei q t0 u xs l).ev (.tmp d)) ((Z10 s d id e ei q t0 u xs l).ev z) = r
    intro ha
    cases r with
    | cond c s2 x =>
     exact ⟨hps.trans ha.1, fun hc K hK => opT.from (Zc6 hm hy hq hin hc.1 hmi) (ha.2 hc.2 K hK)⟩
    | _ => trivial
   ·trivial
  ·trivial
 ·trivial
theorem Zde (hT : Zh P C.T) (hm : X.m = C.m) (hd : dOK X.n o.dst) {t id sz : Nat} {y : Operand} (ho : o.op = .convert t t y) (hy : s.ev y = .own id sz) : Tell2 P X o s (Z7t C s t id sz) := by
 unfold Z7t
 split
 ·rename_i e m p z e0 u xs0 ht hq
  split
  ·rename_i m' p' z' xs he hxs
   split
   ·rename_i hsz
    subst hsz
    obtain ⟨e1, h9⟩ := Za hxs
    injection e1 with e1
    subst e1
    obtain rfl : xs0 = xs := h9
    refine ⟨PureSame.subAll _ _ _ _, fun hpos K hK => ?_⟩
    have hq' : s.toSt.heap[id]? = some (.row e0 1 (List.map Ty.byte.cells xs0)) := by rw [TSt.heap_get, hq]; rfl
    have hl : (List.map Ty.byte.cells xs0).length = List.length xs0 := Z3u (u := .byte) xs0
    refine opT.of (fun K' hK' => Zd3 hT ho ht he (by rw [TSt.ev_ok, hy]; simp only [SV.toAV]; rw [Z4 hq, hl]) hq' (by rw [hl]; exact hpos) hd hK') (Zw (ob := .dead) (oa := .dead) Z1i (ObjLe.refl .dead)) (.refl _) hK
   ·trivial
  ·trivial
 ·trivial
end
end Go.Proofs.YtnehieeplbgaiacDoor.Eng
set_option linter.unusedVariables false
set_option linter.unusedSimpArgs false
namespace Go.Proofs.YtnehieeplbgaiacDoor.Eng
open Go Go.RowKit
theorem fillNil_ok : ∀ (t : Ty) (x : t.nilLast.den) {u : Ty}, t.inn = some u → ∃ cs, t.nilLast.cells x = cs ++ [.v (.slice none 0 0)] ∧ t.cells (fillNil t x) = cs ++ [.ro u.size []]
 | .slice v, x, u, h => by cases h; exact ⟨[], rfl, rfl⟩
 | .one t, x, u, h => fillNil_ok t x h
 | .pair a b, x, u, h => by
  obtain ⟨cs, h1, h2⟩ := fillNil_ok b x.2 h
  refine ⟨a.cells x.1 ++ cs, ?_, ?_⟩
  ·show a.cells x.1 ++ b.nilLast.cells x.2 = _
   rw [h1, List.append_assoc]
  ·show a.cells x.1 ++ b.cells (fillNil b x.2) = _
   rw [h2, List.append_assoc]
 | .int _, _, _, h | .byte, _, _, h | .bool, _, _, h | .str, _, _, h | .ptr _, _, _, h | .nilS, _, _, h | .nilI, _, _, h | .adr, _, _, h | .mp _, _, _, h | .mq _, _, _, h | .fnc _, _, _, h | .clo _ _, _, _, h | .ref _, _, _, h => by cases h
theorem isz_inn {t u : Ty} (h : t.inn = some u) : t.isz = u.size := by unfold Ty.isz; rw [h]
section
variable {P : Program} {C : Cx} {X : Ctx} {o : Oper} {s s' : TSt}
theorem Zha (hd : dOK X.n o.dst) (hm : X.m = C.m) {fop y i z : Operand} {ts : Array Nat} (ho : o.op = .call { callee := .value fop, args := #[y, i, z], argTypes := ts }) {f e : Nat} {ti : TI} (hT : C.T e = some ti) (hf : s.ev fop = .fn f []) (hE : Enters P f) (hI : Zij P f e ti) :
  Tell2 P X o s (insT C s e (s.ev y) (s.ev i) (s.ev z)) := by
 unfold insT
 rw [hT]
 split
 ·rename_i ti' k id2 sz2 h1 hi hz
  cases h1
  have hfa : s.toSt.ev fop = .fn f [] := by rw [TSt.ev_ok, hf]; rfl
  have hiv : s.toSt.ev i = .v (.int .i64 k) := by rw [TSt.ev_ok]; exact Z17 hi
  split
  ·rename_i e2 u2 x2 id sz hq2 hy
   split
   ·rename_i e1 u xs hq
    split
    ·rename_i x hx
     split
     ·rename_i hc
      obtain ⟨rfl, rfl, h3, he1, he2, h4, hne, hmi⟩ := hc
      subst he1 he2
      obtain ⟨e3, hx⟩ := Za hx
      subst e3
      obtain rfl : x2 = x := hx
      refine ⟨.subAll _ _ _ _, fun hc K hK => ?_⟩
      obtain ⟨c1, c2, c3⟩ := hc
      obtain ⟨kn, rfl⟩ : ∃ kn : Nat, k = (kn : Int) := ⟨k.toNat, by omega⟩
      have hq' : s.toSt.heap[id]? = some (.row e2 ti.size (xs.map u2.cells)) := by rw [TSt.heap_get, hq, h4]; rfl
      have hq2' : s.toSt.heap[id2]? = some (.row e2 ti.size [u2.cells x2]) := by rw [TSt.heap_get, hq2, h4]; rfl
      have hl : (xs.map u2.cells).length = List.length xs := by simp
      refine opT.of (fun K' hK' => Zgi (es := xs.map u2.cells) (i := kn) ho hfa hE hI (by rw [TSt.ev_ok, hy]; simp only [SV.toAV]; rw [Z4 hq, hl, h4]) hiv (by rw [hl]; omega) (by rw [TSt.ev_ok, hz]; simp only [SV.toAV]; rw [Z4 hq2, h4]; rfl) hq' hq2' hne (by omega) (by rw [hl]; exact c3) hd hK')
       (Zw (f := Z5 id) (g := Zk id) (id := id) (ob := .row e2 u2 (insL xs (kn : Int).toNat x2)) Z1i (by
        rw [Int.toNat_natCast]
        refine ⟨rfl, h4, by simp [insL], fun j cs ds hj hj' => ?_⟩
        rw [insL, List.map_append, List.map_cons, List.map_take, List.map_drop] at hj'
        rw [hj] at hj'
        cases hj'
        exact leL_refl _)) ?_ hK
      simp only [SV.toAV]
      rw [Z4 (e := e2) (t := u2) (xs := insL xs (kn : Int).toNat x2) (by rw [Z3]; simp only [TSt.subAll, setH_eq]; rw [List.getElem?_set_self (by have := (List.getElem?_eq_some_iff.1 hq').1; simpa [TSt.toSt] using this)])]
      rw [hl, h4]
      have : (insL xs (kn : Int).toNat x2).length = xs.length + 1 := by simp [insL]; omega
      rw [this]
      exact .refl _
     ·trivial
    ·trivial
   ·trivial
  ·rename_i e2 u2 x2 id hq2 hy
   split
   ·rename_i e1 ei t xs hq
    split
    ·rename_i x u hx hu
     split
     ·rename_i hc
      obtain ⟨rfl, h3, he1, he2, h4, hmi⟩ := hc
      subst he1 he2
      obtain ⟨e3, hx⟩ := Za hx
      subst e3
      obtain rfl : x2 = x := hx
      refine ⟨.subAll _ _ _ _, fun hc K hK => ?_⟩
      obtain ⟨c1, c2, c3⟩ := hc
      obtain ⟨kn, rfl⟩ : ∃ kn : Nat, k = (kn : Int) := ⟨k.toNat, by omega⟩
      obtain ⟨cs, n1, n2⟩ := fillNil_ok t x2 hu
      have hcl : (t.nilLast.cells x2).length = ti.size := by rw [Ty.cells_len, h3, h4]
      have hq' : s.toSt.heap[id]? = some (.lin e2 ei ti.size t.isz none none (xs.map t.cells)) := by rw [Z1m (h := s.heap) hq, h4]
      have hq2' : s.toSt.heap[id2]? = some (.row e2 ti.size [t.nilLast.cells x2]) := by rw [TSt.heap_get, hq2, h4, ← h3]; rfl
      have hl : (xs.map t.cells).length = List.length xs := by simp
      refine opT.of (fun K' hK' => Zgj (es := xs.map t.cells) (i := kn) ho hfa hE hI (by rw [TSt.ev_ok, hy]; rfl) hiv (by rw [hl]; omega) (by rw [TSt.ev_ok, hz]; simp only [SV.toAV]; rw [Z4 hq2, h4]; rfl) hq' hq2' (by rw [← hcl, n1]; simp) (by omega) (by rw [hl]; exact c3) hd hK')
       (Zw (f := Z5 id) (g := Zk id) (id := id) (ob := .lin e2 ei t none none (insL xs (kn : Int).toNat (fillNil t x2))) Z1i ?_) (.refl _) hK
      rw [Int.toNat_natCast]
      have e5 : (insL xs kn (fillNil t x2)).map t.cells = (xs.map t.cells).take kn ++ Z16 (t.nilLast.cells x2) (.ro t.isz []) :: (xs.map t.cells).drop kn := by
       rw [insL, List.map_append, List.map_cons, List.map_take, List.map_drop, n2, n1, isz_inn hu]
       simp [Z16]
      show ObjLe _ (.lin e2 ei t.size t.isz none none ((insL xs kn (fillNil t x2)).map t.cells))
      rw [e5, h4]
      exact ObjLe.refl _
     ·trivial
    ·trivial
   ·trivial
  ·trivial
 ·trivial
theorem Z8y (hd : dOK X.n o.dst) (hm : X.m = C.m) {fop y i z : Operand} {ts : Array Nat} (ho : o.op = .call { callee := .value fop, args := #[y, i, z], argTypes := ts }) {f e : Nat} {ti : TI} (hT : C.T e = some ti) (hf : s.ev fop = .fn f []) (hE : Enters P f) (hI : Zik P f e ti) :
  Tell2 P X o s (delT1 C s e (s.ev y) (s.ev i) (s.ev z)) := by
 unfold delT1
 rw [hT]
 split
 ·rename_i ti' k k2 id h1 hi hz hy
  cases h1
  have hfa : s.toSt.ev fop = .fn f [] := by rw [TSt.ev_ok, hf]; rfl
  have hiv : s.toSt.ev i = .v (.int .i64 k) := by rw [TSt.ev_ok]; exact Z17 hi
  have hzv : s.toSt.ev z = .v (.int .i64 k2) := by rw [TSt.ev_ok]; exact Z17 hz
  have key : ∀ {ei : Nat} {t : Ty} {hole : Option Nat} {xs : List t.den} {kn : Nat}, nth s.heap id = some (.lin e ei t none hole xs) → ti.size = t.size → C.m ≤ id → (hole = none ∨ hole = some kn) → k = (kn : Int) → k2 = (kn : Int) + 1 → kn < xs.length →
    ∀ K : TSt → Prop, K ((s.subAll (Zk id) id (.lin e ei t none none (delL xs kn))).put o.dst (.nm id [0])) → opT P X o K s := by
   intro ei t hole xs kn hq h4 hmi hh hk hk2 hlt K hK
   subst hk hk2
   have hq' : s.toSt.heap[id]? = some (.lin e ei ti.size t.isz none hole (xs.map t.cells)) := by rw [Z1m (h := s.heap) hq, h4]
   refine opT.of (fun K' hK' => Zgk (es := xs.map t.cells) (i := kn) ho hfa hE hI (by rw [TSt.ev_ok, hy]; rfl) hiv (by simpa using hlt) (by rw [hzv, Int.natCast_add]; rfl) hq' hh (by omega) hd hK')
    (Zw (f := Z5 id) (g := Zk id) (id := id) (ob := .lin e ei t none none (delL xs kn)) Z1i ?_) (.refl _) hK
   have e5 : (delL xs kn).map t.cells = (xs.map t.cells).take kn ++ (xs.map t.cells).drop (kn + 1) := by
    rw [delL, List.map_append, List.map_take, List.map_drop]
   show ObjLe _ (.lin e ei t.size t.isz none none ((delL xs kn).map t.cells))
   rw [e5, h4]
   exact ObjLe.refl _
  split
  ·rename_i e1 ei t xs hq
   split
   ·rename_i hc
    obtain ⟨rfl, h4, hmi⟩ := hc
    refine ⟨.subAll _ _ _ _, fun hc K hK => ?_⟩
    obtain ⟨c1, c2, c3⟩ := hc
    exact key hq h4 hmi (.inl rfl) (by omega) (by omega) (by omega) K hK
   ·trivial
  ·rename_i e1 ei t q xs hq
   split
   ·rename_i hc
    obtain ⟨rfl, h4, hmi⟩ := hc
    refine ⟨.subAll _ _ _ _, fun hc K hK => ?_⟩
    obtain ⟨c1, c2, c3⟩ := hc
    exact key hq h4 hmi (.inr rfl) c2 c3 c1 K hK
   ·trivial
  ·trivial
 ·trivial
theorem Zhz (hd : dOK X.n o.dst) (hm : X.m = C.m) {fop y i z : Operand} {ts : Array Nat} (ho : o.op = .call { callee := .value fop, args := #[y, i, z], argTypes := ts }) {f e : Nat} {ti : TI} (hT : C.T e = some ti) (hf : s.ev fop = .fn f []) (hE : Enters P f) (hI : Zik P f e ti) :
  Tell2 P X o s (delT C s fop f e y i z) := by
 unfold delT
 split
 ·rename_i id hy
  split
  ·rename_i e1 ei t xs d hq hsl
   split
   ·rename_i id' q hdv
    split
    ·rename_i u l hin
     split
     ·rename_i hc
      obtain ⟨hmi, rfl⟩ := hc
      split
      ·rename_i f' hf'
       split
       ·rename_i hff
        subst hff
        have ha := Z8y (P := P) (X := X) (s := Z10 s d id' e1 ei q t u xs l) (o := o) (C := C) hd hm ho hT hf' hE hI
        have hps := Z4m (s := s) (d := d) (id := id') (e := e1) (ei := ei) (q := q) (u := u) (xs := xs) (l := l) (k := [1, q]) hdv
        revert ha
        generalize delT1 C (Z10 s d id' e1 ei q t u xs l) e ((Z10 s d id' e1 ei q t u xs l).ev y) ((Z10 s d id' e1 ei q t u xs l).ev i) ((Z10 s d id' e1 ei q t u xs l).ev z) = r
        intro ha
        cases r with
        | cond c s2 x => exact ⟨hps.trans ha.1, fun hc K hK => opT.from (Zc6 hm hdv hq hin hc.1 hmi) (ha.2 hc.2 K hK)⟩
        | _ => trivial
       ·trivial
      ·trivial
     ·trivial
    ·trivial
   ·trivial
  ·exact Z8y hd hm ho hT hf hE hI
 ·trivial
end
end Go.Proofs.YtnehieeplbgaiacDoor.Eng
set_option linter.unusedVariables false
set_option linter.unusedSimpArgs false
namespace Go.Proofs.YtnehieeplbgaiacDoor.Eng
open Go Go.RowKit
inductive Rel3 : List Ty → List SV → List SV → Prop
 | nil : Rel3 [] [] []
 | cons {t : Ty} {u : SV} {y : t.den} {ts : List Ty} {us vs : List SV} (h : asT [] t u = some y) (r : Rel3 ts us vs) : Rel3 (t :: ts) (u :: us) (.val t y :: vs)
theorem rel3_of : ∀ (ts : List Ty) (us : List SV) (x : denL ts), asTL [] ts us = some x → Rel3 ts us (svL ts x) := by
 intro ts
 induction ts with
 | nil =>
  intro us x h
  cases us with
  | nil => exact .nil
  | cons u us => cases h
 | cons t r ih =>
  intro us x h
  cases us with
  | nil => cases h
  | cons u us =>
   simp only [asTL] at h
   cases hp : asT [] t u with
   | none => rw [hp] at h; cases h
   | some p =>
    rw [hp] at h
    simp only at h
    cases hq : asTL [] r us with
    | none => rw [hq] at h; cases r <;> cases h
    | some q =>
     rw [hq] at h
     have h2 := ih us q hq
     cases r with
     | nil => cases h; exact .cons hp h2
     | cons u' r => cases h; exact .cons hp h2
theorem Rel3.split {ts ts' : List Ty} : ∀ {us vs : List SV}, Rel3 (ts ++ ts') us vs → ∃ u1 u2 v1 v2, us = u1 ++ u2 ∧ vs = v1 ++ v2 ∧ Rel3 ts u1 v1 ∧ Rel3 ts' u2 v2 := by
 induction ts with
 | nil => exact fun {us vs} h => ⟨[], us, [], vs, rfl, rfl, .nil, h⟩
 | cons t ts ih =>
  intro us vs h
  cases h with
  | cons hu hr =>
   obtain ⟨u1, u2, v1, v2, rfl, rfl, h1, h2⟩ := ih hr
   exact ⟨_ :: u1, u2, _ :: v1, v2, rfl, rfl, .cons hu h1, h2⟩
theorem Rel3.len {ts : List Ty} {us vs : List SV} (h : Rel3 ts us vs) : us.length = ts.length ∧ vs.length = ts.length := by
 induction h with
 | nil => exact ⟨rfl, rfl⟩
 | cons _ _ ih => exact ⟨by simp [ih.1], by simp [ih.2]⟩
section
variable {X : Ctx} {H H' : List TObj} {f : AV → AV} {n : Nat}
theorem Rel3.le {ts : List Ty} {us vs : List SV} (h : Rel3 ts us vs) : AV.leL ((SV.toAVL H us).map (AV.sub f)) (SV.toAVL H' vs) := by
 induction h with
 | nil => trivial
 | cons hu _ ih => exact ⟨Z6n (Lends.none f H) hu, ih⟩
theorem Zah (t : Ty) : asT [] t .any = none := by
 unfold asT
 cases t <;> rfl
theorem tget_app : ∀ (a b : List (Nat × SV)) (i : Nat), tget (a ++ b) i = if i ∈ a.map (·.1) then tget a i else tget b i
 | [], b, i => by simp [tget]
 | (j, x) :: r, b, i => by
  simp only [List.cons_append, tget, List.map_cons, List.mem_cons]
  by_cases h : i = j
  ·simp [h]
  ·simp only [h, if_false, false_or]
   exact tget_app r b i
theorem tget_not : ∀ (a : List (Nat × SV)) (i : Nat), i ∉ a.map (·.1) → tget a i = .any
 | [], i, _ => rfl
 | (j, x) :: r, i, h => by
  simp only [List.map_cons, List.mem_cons, not_or] at h
  simp only [tget]
  rw [if_neg h.1]
  exact tget_not r i h.2
def LeS (H H' : List TObj) (n : Nat) (u v : SV) : Prop := AV.le ((u.toAV H).sub (Z14 n)) (v.toAV H')
theorem cells_rel : ∀ (ks : List CK) (cs us : List SV) (ts : List Ty) (vs : List SV), Rel3 (ckTys ks ++ ts) (colCells ks cs ++ us) vs → Zv n ks cs = true → Rel3 ts us (encCells ks vs).2
 | [], cs, us, ts, vs, h, hc => h
 | .val t :: r, cs, us, ts, vs, h, hc => by
  cases cs with
  | nil => cases hc
  | cons c cs =>
   cases h with
   | cons hu hr => exact cells_rel r cs us ts _ hr hc
 | .own k sz :: r, cs, us, ts, vs, h, hc => by
  simp only [Zv] at hc
  split at hc
  ·rw [Bool.and_eq_true] at hc
   exact cells_rel r _ us ts _ h hc.2
  ·cases hc
 | .ptr k sz :: r, cs, us, ts, vs, h, hc => by
  simp only [Zv] at hc
  split at hc
  ·rw [Bool.and_eq_true] at hc
   exact cells_rel r _ us ts _ h hc.2
  ·cases hc
 | .nm k sz :: r, cs, us, ts, vs, h, hc => by
  simp only [Zv] at hc
  split at hc
  ·rw [Bool.and_eq_true] at hc
   exact cells_rel r _ us ts _ h hc.2
  ·cases hc
 | .nil :: r, cs, us, ts, vs, h, hc => by
  simp only [Zv] at hc
  split at hc
  ·exact cells_rel r _ us ts _ h hc
  ·cases hc
theorem Z2r (hrow : ∀ k, k < n → rowLen H k = rowLen H' k) : ∀ (ks : List CK) (cs us : List SV) (ts : List Ty) (vs : List SV), Rel3 (ckTys ks ++ ts) (colCells ks cs ++ us) vs → Zv n ks cs = true → AV.leL ((SV.toAVL H cs).map (AV.sub (Z14 n))) (SV.toAVL H' (encCells ks vs).1)
 | [], cs, us, ts, vs, h, hc => by
  cases cs with
  | nil => trivial
  | cons c cs => cases hc
 | .val t :: r, cs, us, ts, vs, h, hc => by
  cases cs with
  | nil => cases hc
  | cons c cs =>
   cases h with
   | cons hu hr => exact ⟨Z6n (Lends.none (Z14 n) H) hu, Z2r hrow r cs us ts _ hr hc⟩
 | .own k sz :: r, cs, us, ts, vs, h, hc => by
  simp only [Zv] at hc
  split at hc
  ·simp only [Bool.and_eq_true, decide_eq_true_eq] at hc
   obtain ⟨⟨⟨rfl, rfl⟩, hk⟩, hc⟩ := hc
   refine ⟨?_, Z2r hrow r _ us ts _ h hc⟩
   simp only [SV.toAV, AV.sub, Z14, if_pos hk]
   rw [hrow _ hk]; exact .refl _
  ·cases hc
 | .ptr k sz :: r, cs, us, ts, vs, h, hc => by
  simp only [Zv] at hc
  split at hc
  ·simp only [Bool.and_eq_true, decide_eq_true_eq] at hc
   obtain ⟨⟨⟨rfl, rfl⟩, hk⟩, hc⟩ := hc
   refine ⟨?_, Z2r hrow r _ us ts _ h hc⟩
   simp only [SV.toAV, AV.sub, Z14, if_pos hk]
   exact .refl _
  ·cases hc
 | .nm k sz :: r, cs, us, ts, vs, h, hc => by
  simp only [Zv] at hc
  split at hc
  ·simp only [Bool.and_eq_true, decide_eq_true_eq] at hc
   obtain ⟨⟨⟨rfl, rfl⟩, hk⟩, hc⟩ := hc
   refine ⟨?_, Z2r hrow r _ us ts _ h hc⟩
   simp only [SV.toAV, AV.sub, Z14, if_pos hk]
   exact .refl _
  ·cases hc
 | .nil :: r, cs, us, ts, vs, h, hc => by
  simp only [Zv] at hc
  split at hc
  ·exact ⟨.refl _, Z2r hrow r _ us ts _ h hc⟩
  ·cases hc
theorem Z3q {env : List (Nat × SV)} (hrow : ∀ k, k < n → rowLen H k = rowLen H' k) : ∀ (slots : List (Nat × SK)) (us : List SV) (ts : List Ty) (vs : List SV), Rel3 (slotTys slots ++ ts) (Z6 env slots ++ us) vs → Z7 env n slots = true →
  Rel3 ts us (encSlots slots vs).2 ∧ (encSlots slots vs).1.map (·.1) = slots.map (·.1) ∧ ∀ i ∈ slots.map (·.1), LeS H H' n (tget env i) (tget (encSlots slots vs).1 i) := by
 intro slots
 induction slots with
 | nil => exact fun us ts vs h _ => ⟨h, rfl, fun i hi => by cases hi⟩
 | cons p r ih =>
  obtain ⟨i, sk⟩ := p
  intro us ts vs h hc
  have fin : ∀ {a : List (Nat × SV)} {b : List SV} {v : SV}, encSlots r b = (a, (encSlots r b).2) → LeS H H' n (tget env i) v → (∀ j ∈ r.map (·.1), LeS H H' n (tget env j) (tget a j)) → ∀ j ∈ ((i, sk) :: r).map (·.1), LeS H H' n (tget env j) (tget ((i, v) :: a) j) := by
   intro a b v _ hv hr j hj
   simp only [tget]
   by_cases hji : j = i
   ·rw [if_pos hji, hji]; exact hv
   ·rw [if_neg hji]
    refine hr j ?_
    simp only [List.map_cons, List.mem_cons] at hj
    exact hj.resolve_left hji
  cases sk with
  | val t =>
   simp only [slotTys, Z6, List.cons_append] at h
   cases h with
   | cons hu hr =>
    obtain ⟨h1, h2, h3⟩ := ih us ts _ hr hc
    refine ⟨h1, by simp only [encSlots, List.map_cons, h2], fin rfl ?_ h3⟩
    exact Z6n (Lends.none (Z14 n) H) hu
  | rp t =>
   simp only [slotTys, Z6, List.cons_append] at h
   cases h with
   | @cons _ _ y _ _ _ hu hr =>
    obtain ⟨h1, h2, h3⟩ := ih us ts _ hr hc
    refine ⟨h1, by simp only [encSlots, List.map_cons, h2], fin rfl ?_ h3⟩
    have key : tget env i = .rp t y := by
     revert hu
     cases tget env i with
     | rp u z =>
      intro hu
      obtain ⟨e, h9⟩ := Za (show Zd t u z = some y from hu)
      subst e
      subst h9
      rfl
     | _ => intro hu; rw [show unRp _ = SV.any from rfl, Zah] at hu; cases hu
    rw [key]
    exact .refl _
  | own k sz =>
   simp only [slotTys, Z6] at h
   simp only [Z7] at hc
   split at hc
   ·rename_i k' sz' hg
    simp only [Bool.and_eq_true, decide_eq_true_eq] at hc
    obtain ⟨⟨⟨rfl, rfl⟩, hk⟩, hc⟩ := hc
    obtain ⟨h1, h2, h3⟩ := ih us ts _ h hc
    refine ⟨h1, by simp only [encSlots, List.map_cons, h2], fin rfl ?_ h3⟩
    rw [hg]
    unfold LeS
    simp only [SV.toAV, AV.sub, Z14, if_pos hk]
    rw [hrow _ hk]; exact .refl _
   ·cases hc
  | que k sz =>
   simp only [slotTys, Z6] at h
   simp only [Z7] at hc
   split at hc
   ·rename_i k' sz' hg
    simp only [Bool.and_eq_true, decide_eq_true_eq] at hc
    obtain ⟨⟨⟨rfl, rfl⟩, hk⟩, hc⟩ := hc
    obtain ⟨h1, h2, h3⟩ := ih us ts _ h hc
    refine ⟨h1, by simp only [encSlots, List.map_cons, h2], fin rfl ?_ h3⟩
    rw [hg]
    unfold LeS
    simp only [SV.toAV, AV.sub, Z14, if_pos hk]
    rw [hrow _ hk]; exact .refl _
   ·cases hc
  | ptr k sz =>
   simp only [slotTys, Z6] at h
   simp only [Z7] at hc
   split at hc
   ·rename_i k' sz' hg
    simp only [Bool.and_eq_true, decide_eq_true_eq] at hc
    obtain ⟨⟨⟨rfl, rfl⟩, hk⟩, hc⟩ := hc
    obtain ⟨h1, h2, h3⟩ := ih us ts _ h hc
    refine ⟨h1, by simp only [encSlots, List.map_cons, h2], fin rfl ?_ h3⟩
    rw [hg]
    unfold LeS
    simp only [SV.toAV, AV.sub, Z14, if_pos hk]
    exact .refl _
   ·cases hc
  | nm k sz =>
   simp only [slotTys, Z6] at h
   simp only [Z7] at hc
   split at hc
   ·rename_i k' sz' hg
    simp only [Bool.and_eq_true, decide_eq_true_eq] at hc
    obtain ⟨⟨⟨rfl, rfl⟩, hk⟩, hc⟩ := hc
    obtain ⟨h1, h2, h3⟩ := ih us ts _ h hc
    refine ⟨h1, by simp only [encSlots, List.map_cons, h2], fin rfl ?_ h3⟩
    rw [hg]
    unfold LeS
    simp only [SV.toAV, AV.sub, Z14, if_pos hk]
    exact .refl _
   ·cases hc
  | fn g =>
   simp only [slotTys, Z6] at h
   simp only [Z7] at hc
   split at hc
   ·rename_i g' hg
    simp only [Bool.and_eq_true, decide_eq_true_eq] at hc
    obtain ⟨rfl, hc⟩ := hc
    obtain ⟨h1, h2, h3⟩ := ih us ts _ h hc
    refine ⟨h1, by simp only [encSlots, List.map_cons, h2], fin rfl ?_ h3⟩
    rw [hg]
    exact .refl _
   ·cases hc
  | nil =>
   simp only [slotTys, Z6] at h
   simp only [Z7] at hc
   split at hc
   ·rename_i hg
    obtain ⟨h1, h2, h3⟩ := ih us ts _ h hc
    refine ⟨h1, by simp only [encSlots, List.map_cons, h2], fin rfl ?_ h3⟩
    rw [hg]
    exact .refl _
   ·cases hc
  | inn k =>
   simp only [slotTys, Z6, List.cons_append] at h
   simp only [Z7] at hc
   split at hc
   ·rename_i id' q hg
    simp only [Bool.and_eq_true, decide_eq_true_eq] at hc
    obtain ⟨⟨rfl, hk⟩, hc⟩ := hc
    rw [hg] at h
    cases h with
    | @cons _ _ y _ _ _ hu hr =>
     obtain ⟨h1, h2, h3⟩ := ih us ts _ hr hc
     have hy : y = (q : Int) := by
      obtain ⟨e1, h9⟩ := Za (show Zd (.int .i64) (.int .i64) (q : Int) = some y from hu)
      exact h9.symm
     subst hy
     refine ⟨h1, by simp only [encSlots, List.map_cons, h2], fin rfl ?_ h3⟩
     rw [hg]
     show LeS H H' n (.nm id' [1, q]) (.nm id' [1, Int.toNat (q : Int)])
     rw [Int.toNat_natCast]
     unfold LeS
     simp only [SV.toAV, AV.sub, Z14, if_pos hk]
     exact .refl _
   ·cases hc
  | agg ks =>
   simp only [slotTys, Z6] at h
   simp only [Z7] at hc
   split at hc
   ·rename_i xs hg
    rw [Bool.and_eq_true] at hc
    rw [hg] at h
    simp only [List.append_assoc] at h
    have hr := cells_rel ks xs _ _ _ h hc.1
    obtain ⟨h1, h2, h3⟩ := ih us ts _ hr hc.2
    refine ⟨h1, by simp only [encSlots, List.map_cons, h2], fin rfl ?_ h3⟩
    rw [hg]
    have hle := Z2r hrow ks xs _ _ _ h hc.1
    unfold LeS
    simp only [SV.toAV, AV.sub]
    rw [AV.subL_eq]
    exact AV.leAgg hle
   ·cases hc
  | clo g ks =>
   simp only [slotTys, Z6] at h
   simp only [Z7] at hc
   split at hc
   ·rename_i g' c0 xs0 hg
    simp only [Bool.and_eq_true, decide_eq_true_eq] at hc
    obtain ⟨⟨rfl, hc1⟩, hc2⟩ := hc
    rw [hg] at h
    simp only [List.append_assoc] at h
    have hr := cells_rel ks (c0 :: xs0) _ _ _ h hc1
    obtain ⟨h1, h2, h3⟩ := ih us ts _ hr hc2
    refine ⟨h1, by simp only [encSlots, List.map_cons, h2], fin rfl ?_ h3⟩
    rw [hg]
    have hle := Z2r hrow ks (c0 :: xs0) _ _ _ h hc1
    unfold LeS
    simp only [SV.toAV, AV.sub]
    rw [AV.subL_eq]
    exact AV.leFn hle
   ·cases hc
theorem Z8x {n : Nat} : ∀ (objs : List OB) (h : List TObj) (vs : List SV), Rel3 (objTys objs) (colObjs h objs) vs → Z11 n h objs = true → (encObjs objs vs).length = objs.length ∧ objs.length ≤ h.length ∧
  ∀ (j : Nat) (o : TObj), h[j]? = some o → j < objs.length → ∃ o', (encObjs objs vs)[j]? = some o' ∧ (∀ (H H' : List TObj), (∀ k, k < n → rowLen H k = rowLen H' k) → ObjLe ((o.toObj H).sub (Z14 n)) (o'.toObj H')) ∧ (match o with | .row _ _ xs => xs.length | _ => 0) = (match o' with | .row _ _ xs => xs.length | _ => 0) := by
 intro objs
 induction objs with
 | nil => exact fun h vs _ _ => ⟨rfl, Nat.zero_le _, fun j o _ hj => absurd hj (Nat.not_lt_zero _)⟩
 | cons ob r ih =>
  intro h vs hr hc
  cases h with
  | nil => simp [Z11] at hc
  | cons o h =>
   have fin : ∀ {o' : TObj} {vs' : List SV}, Rel3 (objTys r) (colObjs h r) vs' → Z11 n h r = true → encObjs (ob :: r) vs = o' :: encObjs r vs' → (∀ (H H' : List TObj), (∀ k, k < n → rowLen H k = rowLen H' k) → ObjLe ((o.toObj H).sub (Z14 n)) (o'.toObj H')) → (match o with | .row _ _ xs => xs.length | _ => 0) = (match o' with | .row _ _ xs => xs.length | _ => 0) →
     (encObjs (ob :: r) vs).length = (ob :: r).length ∧ (ob :: r).length ≤ (o :: h).length ∧ ∀ (j : Nat) (q : TObj), (o :: h)[j]? = some q → j < (ob :: r).length → ∃ o', (encObjs (ob :: r) vs)[j]? = some o' ∧ (∀ (H H' : List TObj), (∀ k, k < n → rowLen H k = rowLen H' k) → ObjLe ((q.toObj H).sub (Z14 n)) (o'.toObj H')) ∧ (match q with | .row _ _ xs => xs.length | _ => 0) = (match o' with | .row _ _ xs => xs.length | _ => 0) := by
    intro o' vs' h1 h2 he h3 h4
    obtain ⟨h5, h6, h7⟩ := ih h vs' h1 h2
    rw [he]
    refine ⟨by simp [h5], by simp; exact h6, fun j q hq hj => ?_⟩
    cases j with
    | zero => simp at hq; subst hq; exact ⟨o', rfl, h3, h4⟩
    | succ j => exact h7 j q (by simpa using hq) (by simpa using hj)
   cases ob with
   | row e t =>
    simp only [objTys, colObjs] at hr
    simp only [Z11, Bool.and_eq_true] at hc
    cases o with
    | row e' t' xs =>
     simp only [decide_eq_true_eq] at hc
     obtain ⟨rfl, hc⟩ := hc
     cases hr with
     | @cons _ _ y _ _ _ hu hr =>
      obtain ⟨e, h9⟩ := Za (show Zd (.slice t) (.slice t') xs = some y from hu)
      injection e with e
      subst e
      obtain rfl : xs = y := h9
      exact fin hr hc rfl (fun H H' _ => ObjLe.refl _) rfl
    | box e' cs => simp at hc
    | dead => simp at hc
    | mapo t es => simp at hc
    | iter t es => simp at hc
    | lin e ei t part hole es => simp at hc
   | box e ks =>
    simp only [objTys, colObjs] at hr
    simp only [Z11, Bool.and_eq_true] at hc
    cases o with
    | box e' cs =>
     simp only [Bool.and_eq_true, decide_eq_true_eq] at hc
     obtain ⟨⟨rfl, hl⟩, hc⟩ := hc
     exact fin (o' := .box e' (encCells ks vs).1) (vs' := (encCells ks vs).2) (cells_rel ks cs _ _ _ hr hl) hc rfl (fun H H' hrow => ⟨rfl, Z2r hrow ks cs _ _ _ hr hl⟩) rfl
    | row e' t' xs => simp at hc
    | dead => simp at hc
    | mapo t es => simp at hc
    | iter t es => simp at hc
    | lin e ei t part hole es => simp at hc
   | dead =>
    simp only [objTys, colObjs] at hr
    simp only [Z11, Bool.and_eq_true] at hc
    cases o with
    | dead => exact fin hr hc.2 rfl (fun H H' _ => trivial) rfl
    | row e' t' xs => simp at hc
    | box e' cs => simp at hc
    | mapo t es => simp at hc
    | iter t es => simp at hc
    | lin e ei t part hole es => simp at hc
   | mapo t =>
    simp only [objTys, colObjs] at hr
    simp only [Z11, Bool.and_eq_true] at hc
    cases o with
    | mapo t' xs =>
     cases hr with
     | @cons _ _ y _ _ _ hu hr =>
      obtain ⟨e, h9⟩ := Za (show Zd (.slice (.pair .str t)) (.slice (.pair .str t')) xs = some y from hu)
      injection e with e
      injection e with e0 e
      subst e
      obtain rfl : xs = y := h9
      exact fin hr hc.2 rfl (fun H H' _ => ObjLe.refl _) rfl
    | iter t es => simp at hc
    | row e' t' xs => simp at hc
    | box e' cs => simp at hc
    | dead => simp at hc
    | lin e ei t part hole es => simp at hc
   | lin e ei t =>
    simp only [objTys, colObjs] at hr
    simp only [Z11, Bool.and_eq_true] at hc
    cases o with
    | lin e' ei' t' part hole xs =>
     cases part with
     | some k => simp at hc
     | none =>
      cases hole with
      | some k => simp at hc
      | none =>
       simp only [Bool.and_eq_true, decide_eq_true_eq] at hc
       obtain ⟨⟨rfl, rfl⟩, hc⟩ := hc
       cases hr with
       | @cons _ _ y _ _ _ hu hr =>
        obtain ⟨e, h9⟩ := Za (show Zd (.slice t) (.slice t') xs = some y from hu)
        injection e with e
        subst e
        obtain rfl : xs = y := h9
        exact fin hr hc rfl (fun H H' _ => ObjLe.refl _) rfl
    | row e' t' xs => simp at hc
    | box e' cs => simp at hc
    | dead => simp at hc
    | mapo t es => simp at hc
    | iter t es => simp at hc
   | lip e ei t =>
    simp only [objTys, colObjs] at hr
    simp only [Z11, Bool.and_eq_true] at hc
    cases o with
    | lin e' ei' t' part hole xs =>
     cases part with
     | none => simp at hc
     | some c =>
      cases hole with
      | some k => simp at hc
      | none =>
       simp only [Bool.and_eq_true, decide_eq_true_eq] at hc
       obtain ⟨⟨rfl, rfl⟩, hc⟩ := hc
       cases hr with
       | @cons _ _ y _ _ _ hu hr =>
        obtain ⟨e, h9⟩ := Za (show Zd (.slice t) (.slice t') xs = some y from hu)
        injection e with e
        subst e
        obtain rfl : xs = y := h9
        cases hr with
        | @cons _ _ n _ _ _ hu hr =>
         obtain ⟨e, h9⟩ := Za (show Zd (.int .i64) (.int .i64) ((c : Nat) : Int) = some n from hu)
         obtain rfl : ((c : Nat) : Int) = n := h9
         refine fin (o' := .lin e' ei' t' (some c) none xs) hr hc ?_ (fun H H' _ => ObjLe.refl _) rfl
         show lipOf e' ei' (.val (.slice t') xs) (.val (.int .i64) ((c : Nat) : Int)) :: _ = _
         simp only [lipOf, Int.toNat_natCast]
    | row e' t' xs => simp at hc
    | box e' cs => simp at hc
    | dead => simp at hc
    | mapo t es => simp at hc
    | iter t es => simp at hc
def FrOK (fr : List (Nat × SV)) (s : TSt) : Prop := ∀ (H H' : List TObj) (n i : Nat), LeS H H' n (tget s.env i) (tget fr i)
theorem Z8 (h : List TObj) (k : Nat) : rowLen h k = match h[k]? with | some o => (match o with | .row _ _ xs => xs.length | _ => 0) | none => 0 := by
 unfold rowLen
 rw [Z3]
 cases h[k]? with
 | none => rfl
 | some o => cases o <;> rfl
theorem Zdc {sh : Shape} {s : TSt} {x : denL sh.tys} {fr : List (Nat × SV)} (hm : X.m ≤ sh.objs.length) (hc : (Z7 s.env sh.objs.length sh.slots && Z11 sh.objs.length s.heap sh.objs) = true)
  (hx : asTL [] sh.tys (Z6 s.env sh.slots ++ colObjs s.heap sh.objs) = some x) (hfr : FrOK fr s) : Imp X s.toSt (encS sh x fr).toSt := by
 rw [Bool.and_eq_true] at hc
 have hrel := rel3_of _ _ _ hx
 have h0 : ∃ v1 v2, encSlots sh.slots (svL sh.tys x) = (v1, v2) := ⟨_, _, rfl⟩
 obtain ⟨v1, v2, hv⟩ := h0
 have hE : encS sh x fr = ⟨v1 ++ fr, encObjs sh.objs v2⟩ := by simp only [encS, hv]
 have hro : Rel3 (objTys sh.objs) (colObjs s.heap sh.objs) v2 := by
  have := (Z3q (H := s.heap) (H' := s.heap) (n := sh.objs.length) (fun k _ => rfl) sh.slots _ _ _ hrel hc.1).1
  rw [hv] at this
  exact this
 obtain ⟨h1, h2, h3⟩ := Z8x sh.objs s.heap v2 hro hc.2
 have hrow : ∀ k, k < sh.objs.length → rowLen s.heap k = rowLen (encObjs sh.objs v2) k := fun k hk => by
  have hk' : k < s.heap.length := Nat.lt_of_lt_of_le hk h2
  obtain ⟨o', h4, _, h6⟩ := h3 k _ (List.getElem?_eq_getElem hk') hk
  rw [Z8, Z8, List.getElem?_eq_getElem hk', h4]
  exact h6
 obtain ⟨_, h5, h6⟩ := Z3q (env := s.env) hrow sh.slots _ _ _ hrel hc.1
 rw [hv] at h5 h6
 simp only at h5 h6
 intro a w hr
 have htr := Rep.trim (n := sh.objs.length) hm (by simpa [TSt.toSt] using h2) hr
 rw [hE]
 refine htr.weak ⟨fun i => ?_, by simp [St.trim, TSt.toSt, h1]; exact Nat.min_eq_left h2, fun j o o' ho ho' => ?_⟩
 ·simp only [St.trim, TSt.toSt, Zn, Zf]
  rw [tget_app, h5]
  by_cases hi : i ∈ sh.slots.map (·.1)
  ·rw [if_pos hi]
   exact h6 i hi
  ·rw [if_neg hi]
   exact hfr _ _ _ i
 ·simp only [St.trim, TSt.toSt, List.getElem?_map, List.getElem?_take] at ho
  obtain ⟨q, hq, rfl⟩ := Option.map_eq_some_iff.1 ho
  split at hq
  ·rename_i hj
   obtain ⟨q', hq', rfl⟩ := Option.map_eq_some_iff.1 hq
   obtain ⟨o2, h7, h8, _⟩ := h3 j q' hq' hj
   simp only [TSt.toSt, List.getElem?_map] at ho'
   rw [h7, Option.map_some] at ho'
   cases ho'
   exact h8 _ _ hrow
  ·cases hq
end
end Go.Proofs.YtnehieeplbgaiacDoor.Eng
set_option linter.unusedVariables false
set_option linter.unusedSimpArgs false
namespace Go.Proofs.YtnehieeplbgaiacDoor.Eng
open Go Go.RowKit
section
variable {σ σ' : Nat → Option Blk} {F F' : Nat → Prop} {w w' : World} {H H' : List TObj}
theorem HRep.weak {h h' : List AObj} (hr : HRep σ F w h) (hl : h.length = h'.length) (hle : ∀ (i : Nat) (o o' : AObj), h[i]? = some o → h'[i]? = some o' → ObjLe o o') : HRep σ F w h' :=
 ⟨fun id o' ho => by
  have hj : id < h.length := by rw [hl]; exact (List.getElem?_eq_some_iff.1 ho).1
  exact (hr.obj id _ (List.getElem?_eq_getElem hj)).weak (hle id _ o' (List.getElem?_eq_getElem hj) ho), fun id hid => hr.out id (by rw [hl]; exact hid), hr.inj, hr.lt, hr.flt, hr.lay⟩
theorem selσ_range {n : Nat} (hout : ∀ id, n ≤ id → σ id = none) : selσ (List.range n) σ = σ := by
 funext id
 by_cases h : id < n
 ·simp [selσ, List.getElem?_range h]
 ·simp [selσ, List.getElem?_eq_none (show (List.range n).length ≤ id by simp; omega), hout id (by omega)]
theorem HRep.trimH {h : List AObj} (hr : HRep σ F w h) : HRep σ F w (h.map (AObj.sub (Z14 h.length))) := by
 have h1 := hr.sel (keep := List.range h.length) List.nodup_range (fun i hi => List.mem_range.1 hi)
 rw [selσ_range hr.out] at h1
 have h2 : Z1r (List.range h.length) h = h.map (AObj.sub (Z14 h.length)) := by
  rw [Z56, Z1r]
  apply List.ext_getElem?
  intro i
  simp only [List.getElem?_map]
  by_cases hi : i < h.length
  ·simp [List.getElem?_range hi, List.getElem?_eq_getElem hi]
  ·rw [List.getElem?_eq_none (by simp; omega), List.getElem?_eq_none (by omega)]; rfl
 rwa [h2] at h1
theorem Zdy {keep : List Nat} {k : Nat} : (Z28 keep H)[k]? = (keep[k]?).map fun i => ((nth H i).getD .dead).sub (renS keep) := by
 simp [Z28]
theorem Z31 (o : TObj) (g : SV → SV) : (match o.sub g with | .row _ _ xs => xs.length | _ => 0) = (match o with | .row _ _ xs => xs.length | _ => 0) := by cases o <;> rfl
theorem Zcy {keep : List Nat} {k i : Nat} (hk : keep[k]? = some i) : rowLen (Z28 keep H) k = rowLen H i := by
 rw [Z8, Z8, Zdy, hk, Option.map_some, Z3]
 cases H[i]? with
 | none => rfl
 | some o => exact Z31 o _
theorem Zg0 (keep : List Nat) : SubOK (Z1o keep) (renS keep) H (Z28 keep H) := by
 refine ⟨fun id sz => ?_, fun id sz off len => ?_, fun id i sz j => ?_, fun id q => ?_⟩
 ·simp only [Z1o, renS]
  cases h : idx keep id with
  | none => exact .any _
  | some k => simp only [SV.toAV]; rw [Zcy (idx_some h)]; exact .refl _
 all_goals
  simp only [Z1o, renS]
  cases h : idx keep id with
  | none => exact .any _
  | some k => exact .refl _
theorem Zd4 {f : AV → AV} {g : SV → SV} {h h' : List TObj} (ok : SubOK f g h h') (o : TObj) : ObjLe ((o.toObj h).sub f) ((o.sub g).toObj h') := by
 cases o with
 | box e cs => exact ⟨rfl, Z3y ok cs⟩
 | _ => exact ObjLe.refl _
theorem Z67 (env : List (Nat × SV)) : ∀ (n k i : Nat), (Z2h env k n)[i]? = if i < n then some (tget env (k + i)) else none
 | 0, k, i => by simp [Z2h]
 | n + 1, k, 0 => by simp [Z2h]
 | n + 1, k, i + 1 => by
  simp only [Z2h, List.getElem?_cons_succ, Z67 env n (k + 1) i]
  rw [show k + 1 + i = k + (i + 1) by omega]
  by_cases h : i < n
  ·rw [if_pos h, if_pos (by omega)]
  ·rw [if_neg h, if_neg (by omega)]
theorem Z66 (env : List (Nat × SV)) : ∀ (n k : Nat), (Z2h env k n).length = n
 | 0, k => rfl
 | n + 1, k => by simp [Z2h, Z66 env n (k + 1)]
theorem tget_enum : ∀ (l : List SV) (k i : Nat), tget (Z5l k l) i = if k ≤ i then (l[i - k]?).getD .any else .any
 | [], k, i => by simp [Z5l, tget]
 | x :: r, k, i => by
  simp only [Z5l, tget]
  by_cases h : i = k
  ·subst h; simp
  ·rw [if_neg h, tget_enum r (k + 1) i]
   by_cases h2 : k + 1 ≤ i
   ·rw [if_pos h2, if_pos (by omega), show i - k = (i - (k + 1)) + 1 by omega]; simp
   ·rw [if_neg h2, if_neg (by omega)]
theorem Zi0 {sh : Shape} {s : TSt} {x : denL sh.tys} (h : decO sh s = some x) : (Z7 s.env sh.objs.length sh.slots && Z11 sh.objs.length s.heap sh.objs) = true ∧ asTL [] sh.tys (Z6 s.env sh.slots ++ colObjs s.heap sh.objs) = some x := by
 unfold decO at h
 split at h
 ·rename_i hc; exact ⟨hc, h⟩
 ·cases h
theorem Zei {sh : Shape} {keep : List Nat} {xs : List SV} {x : denL sh.tys} (hd : decO sh ⟨Z5l 0 (xs.map (SV.sub (renS keep))), Z28 keep H⟩ = some x) (hlen : keep.length = sh.objs.length) (hkeys : ∀ j, j < xs.length → j ∈ sh.slots.map (·.1)) (hnd : keep.Nodup) (hin : ∀ i ∈ keep, i < H.length) :
  Says keep (H.map (TObj.toObj H)) (xs.map (SV.toAV H)) (encS sh x []).toSt.heap ((Z2h (encS sh x []).env 0 xs.length).map (SV.toAV (encS sh x []).heap)) := by
 obtain ⟨hc, hx⟩ := Zi0 hd
 rw [Bool.and_eq_true] at hc
 have hrel := rel3_of _ _ _ hx
 let s : TSt := ⟨Z5l 0 (xs.map (SV.sub (renS keep))), Z28 keep H⟩
 have h0 : ∃ v1 v2, encSlots sh.slots (svL sh.tys x) = (v1, v2) := ⟨_, _, rfl⟩
 obtain ⟨v1, v2, hv⟩ := h0
 have hE : encS sh x [] = ⟨v1 ++ [], encObjs sh.objs v2⟩ := by simp only [encS, hv]
 have hro : Rel3 (objTys sh.objs) (colObjs (Z28 keep H) sh.objs) v2 := by
  have := (Z3q (H := Z28 keep H) (H' := Z28 keep H) (n := sh.objs.length) (fun k _ => rfl) sh.slots _ _ _ hrel hc.1).1
  rw [hv] at this
  exact this
 obtain ⟨h1, h2, h3⟩ := Z8x sh.objs (Z28 keep H) v2 hro hc.2
 have hlk : (Z28 keep H).length = keep.length := by simp [Z28]
 have hrow : ∀ k, k < sh.objs.length → rowLen (Z28 keep H) k = rowLen (encObjs sh.objs v2) k := fun k hk => by
  have hk' : k < (Z28 keep H).length := Nat.lt_of_lt_of_le hk h2
  obtain ⟨o', h4, _, h6⟩ := h3 k _ (List.getElem?_eq_getElem hk') hk
  rw [Z8, Z8, List.getElem?_eq_getElem hk', h4]
  exact h6
 obtain ⟨_, h5, h6⟩ := Z3q (env := Z5l 0 (xs.map (SV.sub (renS keep)))) hrow sh.slots _ _ _ hrel hc.1
 rw [hv] at h5 h6
 simp only at h5 h6
 rw [hE, List.append_nil]
 refine ⟨by simp [Z66], by simp [TSt.toSt, h1, hlen], fun σ F w hr => ?_⟩
 have hsel := hr.sel hnd (fun i hi => by simpa using hin i hi)
 have hA : HRep (selσ keep σ) F w ((Z28 keep H).map (TObj.toObj (Z28 keep H))) := by
  refine hsel.weak (by simp [Z1r, Z28]) (fun k o o' ho ho' => ?_)
  simp only [Z1r, List.getElem?_map] at ho
  rw [List.getElem?_map, Zdy] at ho'
  obtain ⟨i, hi, rfl⟩ := Option.map_eq_some_iff.1 ho
  rw [hi] at ho'
  simp only [Option.map_some, Option.some.injEq] at ho'
  subst ho'
  have hlt := hin i (List.mem_of_getElem? hi)
  rw [Z3, List.getElem?_eq_getElem hlt, Option.map_some, Option.getD_some, Option.getD_some]
  exact Zd4 (Zg0 keep) _
 have hB := hA.trimH
 have hn : ((Z28 keep H).map (TObj.toObj (Z28 keep H))).length = sh.objs.length := by simp [hlk, hlen]
 rw [hn] at hB
 have hout : ∀ id, sh.objs.length ≤ id → selσ keep σ id = none := fun id hid => hA.out id (by rw [hn]; exact hid)
 refine ⟨hB.weak (by simp [TSt.toSt, h1, hlk, hlen]) (fun j o o' ho ho' => ?_), fun j y y' v hy hy' hv' => ?_⟩
 ·simp only [List.getElem?_map] at ho
  obtain ⟨q, hq, rfl⟩ := Option.map_eq_some_iff.1 ho
  obtain ⟨q', hq', rfl⟩ := Option.map_eq_some_iff.1 hq
  have hj : j < sh.objs.length := by rw [← hlen, ← hlk]; exact (List.getElem?_eq_some_iff.1 hq').1
  obtain ⟨o2, h7, h8, _⟩ := h3 j q' hq' hj
  simp only [TSt.toSt, List.getElem?_map] at ho'
  rw [h7, Option.map_some] at ho'
  cases ho'
  exact h8 _ _ hrow
 ·rw [List.getElem?_map] at hy
  obtain ⟨z, hz, rfl⟩ := Option.map_eq_some_iff.1 hy
  have hj : j < xs.length := (List.getElem?_eq_some_iff.1 hz).1
  rw [List.getElem?_map, Z67, if_pos hj, Option.map_some, Nat.zero_add] at hy'
  cases hy'
  have h9 : RepV (selσ keep σ) F w ((z.sub (renS keep)).toAV (Z28 keep H)) v := RepV.le (Z8f (Zg0 keep) z) hv'.sel
  have h10 : RepV (selσ keep σ) F w (((z.sub (renS keep)).toAV (Z28 keep H)).sub (Z14 sh.objs.length)) v := by
   have := h9.sel (keep := List.range sh.objs.length)
   rw [selσ_range hout, ← Z56] at this
   exact this
  have h11 := h6 j (hkeys j hj)
  unfold LeS at h11
  have e : tget (Z5l 0 (xs.map (SV.sub (renS keep)))) j = z.sub (renS keep) := by
   rw [tget_enum, if_pos (Nat.zero_le _), Nat.sub_zero, List.getElem?_map, hz]; rfl
  rw [e] at h11
  exact RepV.le h11 h10
end
end Go.Proofs.YtnehieeplbgaiacDoor.Eng
set_option linter.unusedVariables false
set_option linter.unusedSimpArgs false
namespace Go.Proofs.YtnehieeplbgaiacDoor.Eng
open Go Go.RowKit
theorem Zac {α : Type} : ∀ (l : List α) (k : Nat), Zjt l k = l.drop k
 | [], 0 => rfl
 | _ :: _, 0 => rfl
 | [], _ + 1 => rfl
 | _ :: r, k + 1 => by simp [Zjt, Zac r k]
theorem memN_notin : ∀ {l : List Nat} {x : Nat}, memN l x = false → x ∉ l
 | [], x, _ => by simp
 | y :: r, x, h => by
  unfold memN at h
  split at h
  ·cases h
  ·rename_i e
   simp only [List.mem_cons, not_or]
   exact ⟨fun h' => e h'.symm, memN_notin h⟩
theorem noDup_ok : ∀ {l : List Nat}, noDup l = true → l.Nodup
 | [], _ => List.nodup_nil
 | x :: r, h => by
  simp only [noDup, Bool.and_eq_true, Bool.not_eq_true'] at h
  exact List.nodup_cons.2 ⟨memN_notin h.1, noDup_ok h.2⟩
theorem idx_of : ∀ {l : List Nat} {k i : Nat}, l.Nodup → l[k]? = some i → idx l i = some k
 | [], _, _, _, h => by simp at h
 | a :: r, 0, i, _, h => by simp at h; subst h; simp [idx]
 | a :: r, k + 1, i, hn, h => by
  rw [List.nodup_cons] at hn
  have h1 : r[k]? = some i := by simpa using h
  have hne : i ≠ a := fun e => hn.1 (e ▸ List.mem_of_getElem? h1)
  simp [idx, hne, idx_of hn.2 h1]
section
variable {keep : List Nat} {n : Nat} {h hO : List TObj}
theorem backH_get : ∀ (l : List TObj) (k i : Nat), i < l.length → (Z3c keep n hO k l)[i]? = some (match idx keep (k + i) with | some q => ((nth hO q).getD .dead).sub (Zag keep n) | none => (l[i]?).getD .dead)
 | [], k, i, hi => by simp at hi
 | o :: r, k, 0, _ => by
  simp only [Z3c, Nat.add_zero, List.getElem?_cons_zero, Option.getD_some]
  cases idx keep k <;> rfl
 | o :: r, k, i + 1, hi => by
  simp only [Z3c, List.getElem?_cons_succ]
  rw [backH_get r (k + 1) i (by simpa using hi), show k + 1 + i = k + (i + 1) by omega]
theorem backH_new : ∀ (l : List TObj) (k i : Nat), (Z3c keep n hO k l)[l.length + i]? = (hO[keep.length + i]?).map (TObj.sub (Zag keep n))
 | [], k, i => by simp [Z3c, Zac, List.getElem?_drop]
 | o :: r, k, i => by
  simp only [Z3c, List.length_cons]
  rw [show r.length + 1 + i = (r.length + i) + 1 by omega, List.getElem?_cons_succ]
  exact backH_new r (k + 1) i
theorem backH_len : ∀ (l : List TObj) (k : Nat), (Z3c keep n hO k l).length = l.length + (hO.length - keep.length)
 | [], k => by simp [Z3c, Zac]
 | o :: r, k => by simp [Z3c, backH_len r (k + 1)]; omega
theorem memN_in : ∀ {l : List Nat} {x : Nat}, memN l x = true → x ∈ l
 | [], x, h => by cases h
 | y :: r, x, h => by
  unfold memN at h
  split at h
  ·rename_i e; rw [← e]; exact List.mem_cons_self ..
  ·exact List.mem_cons_of_mem _ (memN_in h)
theorem mem_deadL : ∀ (l : List Nat) (k i : Nat), i ∈ deadL hO k l → ∃ j : Nat, l[j]? = some i ∧ hO[k + j]? = some .dead
 | [], k, i, hi => by simp [deadL] at hi
 | a :: r, k, i, hi => by
  have rest : i ∈ deadL hO (k + 1) r → ∃ j : Nat, (a :: r)[j]? = some i ∧ hO[k + j]? = some .dead := fun h => by
   obtain ⟨j, h1, h2⟩ := mem_deadL r (k + 1) i h
   exact ⟨j + 1, by simpa using h1, by rw [show k + (j + 1) = k + 1 + j by omega]; exact h2⟩
  unfold deadL at hi
  split at hi
  ·rename_i hd
   rcases List.mem_cons.1 hi with rfl | hi
   ·exact ⟨0, rfl, by rw [← Z3]; exact hd⟩
   ·exact rest hi
  ·exact rest hi
theorem deadL_mem : ∀ (l : List Nat) (k j i : Nat), l[j]? = some i → hO[k + j]? = some .dead → i ∈ deadL hO k l
 | [], k, j, i, h, _ => by simp at h
 | a :: r, k, 0, i, h, hd => by
  simp at h; subst h
  unfold deadL
  rw [Z3, show k = k + 0 from rfl, hd]
  exact List.mem_cons_self ..
 | a :: r, k, j + 1, i, h, hd => by
  have h1 := deadL_mem r (k + 1) j i (by simpa using h) (by rw [show k + 1 + j = k + (j + 1) by omega]; exact hd)
  unfold deadL
  split
  ·exact List.mem_cons_of_mem _ h1
  ·exact h1
theorem lens_ok : ∀ (l : List Nat) (k j id : Nat), (∀ c ∈ Z4x h hO k l, c) → l[j]? = some id → ∃ o, hO[k + j]? = some o ∧ (o = .dead ∨ o ≠ .dead ∧ rowLen hO (k + j) = rowLen h id) := by
 intro l
 induction l with
 | nil => intro k j id _ hj; simp at hj
 | cons i r ih =>
  intro k j id hc hj
  have step : ∀ {hd : Prop} , (∀ c ∈ hd :: Z4x h hO (k + 1) r, c) → (hd → ∃ o, hO[k]? = some o ∧ (o = .dead ∨ o ≠ .dead ∧ rowLen hO k = rowLen h i)) → ∃ o, hO[k + j]? = some o ∧ (o = .dead ∨ o ≠ .dead ∧ rowLen hO (k + j) = rowLen h id) := by
   intro hd h1 h2
   cases j with
   | zero => simp at hj; subst hj; exact h2 (h1 _ (List.mem_cons_self ..))
   | succ j =>
    have := ih (k + 1) j id (fun c hc => h1 c (List.mem_cons_of_mem _ hc)) (by simpa using hj)
    rwa [show k + 1 + j = k + (j + 1) by omega] at this
  have plain : (∀ c ∈ Z4x h hO (k + 1) r, c) → (∃ o, hO[k]? = some o ∧ (o = .dead ∨ o ≠ .dead ∧ rowLen hO k = rowLen h i)) → ∃ o, hO[k + j]? = some o ∧ (o = .dead ∨ o ≠ .dead ∧ rowLen hO (k + j) = rowLen h id) := fun h1 h2 => step (hd := True) (fun c hc => by
   rcases List.mem_cons.1 hc with rfl | hc
   ·trivial
   ·exact h1 c hc) (fun _ => h2)
  unfold Z4x at hc
  split at hc
  ·rename_i e t xs e' t' ys h1 h2
   refine step hc (fun hl => ⟨_, by rw [← Z3]; exact h2, .inr ⟨by simp, ?_⟩⟩)
   simp only [rowLen, h1, h2]; exact hl
  ·rename_i h1 h2
   exact plain hc ⟨_, by rw [← Z3]; exact h2, .inr ⟨by simp, by simp only [rowLen, h1, h2]⟩⟩
  ·rename_i h1 h2
   exact plain hc ⟨_, by rw [← Z3]; exact h2, .inr ⟨by simp, by simp only [rowLen, h1, h2]⟩⟩
  ·rename_i h1 h2
   exact plain hc ⟨_, by rw [← Z3]; exact h2, .inr ⟨by simp, by simp only [rowLen, h1, h2]⟩⟩
  ·rename_i h1 h2
   exact plain hc ⟨_, by rw [← Z3]; exact h2, .inl rfl⟩
  ·rename_i h1 h2
   exact plain hc ⟨_, by rw [← Z3]; exact h2, .inl rfl⟩
  ·exact (hc False (List.mem_cons_self ..)).elim
structure SubLt (n : Nat) (f : AV → AV) (g : SV → SV) (h h' : List TObj) : Prop where
 own : ∀ id sz, id < n → AV.le (f (.own id sz 0 (rowLen h id))) ((g (.own id sz)).toAV h')
 cut : ∀ id sz off len, id < n → AV.le (f (.own id sz off len)) ((g (.cut id sz off len)).toAV h')
 ptr : ∀ id i sz j, id < n → AV.le (f (.ptr id i sz j)) ((g (.ptr id i sz j)).toAV h')
 nm : ∀ id k, id < n → AV.le (f (.nm id k)) ((g (.nm id k)).toAV h')
mutual
theorem Z9a {n : Nat} {f : AV → AV} {g : SV → SV} {h h' : List TObj} (ok : SubLt n f g h h') : ∀ x : SV, x.idsLt n → AV.le ((x.toAV h).sub f) ((x.sub g).toAV h')
 | .own id sz, hx => ok.own id sz hx
 | .cut id sz off len, hx => ok.cut id sz off len hx
 | .ptr id i sz j, hx => ok.ptr id i sz j hx
 | .nm id k, hx => ok.nm id k hx
 | .agg cs, hx => by
  simp only [SV.toAV, SV.sub, AV.sub]
  rw [AV.subL_eq]
  exact AV.leAgg (Z2w ok cs hx)
 | .tup cs, hx => by
  simp only [SV.toAV, SV.sub, AV.sub]
  rw [AV.subL_eq]
  exact AV.leTup (Z2w ok cs hx)
 | .fn f' cs, hx => by
  simp only [SV.toAV, SV.sub, AV.sub]
  rw [AV.subL_eq]
  exact AV.leFn (Z2w ok cs hx)
 | .any, _ => .refl _
 | .cst v, _ => by simp only [SV.toAV, SV.sub]; rw [Z90]; exact .refl _
 | .val t x, _ => by simp only [SV.toAV, SV.sub]; rw [Z1h]; exact .refl _
 | .rp t x, _ => .refl _
theorem Z2w {n : Nat} {f : AV → AV} {g : SV → SV} {h h' : List TObj} (ok : SubLt n f g h h') : ∀ l : List SV, SV.idsLtL n l → AV.leL ((SV.toAVL h l).map (AV.sub f)) (SV.toAVL h' (SV.subL g l))
 | [], _ => trivial
 | x :: r, hx => ⟨Z9a ok x hx.1, Z2w ok r hx.2⟩
end
mutual
theorem subK_nil : ∀ x : SV, x.sub (Z4y []) = x
 | .own _ _ | .cut _ _ _ _ | .ptr _ _ _ _ | .nm _ _ | .any | .cst _ | .val _ _ | .rp _ _ => rfl
 | .agg cs => by simp only [SV.sub]; rw [subLK_nil cs]
 | .tup cs => by simp only [SV.sub]; rw [subLK_nil cs]
 | .fn _ cs => by simp only [SV.sub]; rw [subLK_nil cs]
theorem subLK_nil : ∀ l : List SV, SV.subL (Z4y []) l = l
 | [] => rfl
 | x :: r => by simp only [SV.subL]; rw [subK_nil x, subLK_nil r]
end
theorem Zja (o : TObj) : o.sub (Z4y []) = o := by
 cases o with
 | box e cs => simp only [TObj.sub]; rw [subLK_nil]
 | _ => rfl
theorem Ze2 (s : TSt) (ds : List Nat) : s.killL ds = ⟨s.env.map fun p => (p.1, p.2.sub (Z4y ds)), s.heap.map (TObj.sub (Z4y ds))⟩ := by
 cases ds with
 | cons d r => rfl
 | nil =>
  have e1 : s.env.map (fun p => (p.1, p.2.sub (Z4y []))) = s.env := by
   rw [List.map_congr_left (g := fun p => p) (fun p _ => by rw [subK_nil])]; exact List.map_id' _
  have e2 : s.heap.map (TObj.sub (Z4y [])) = s.heap := by
   rw [List.map_congr_left (g := fun p => p) (fun p _ => Zja p)]; exact List.map_id' _
  rw [e1, e2]; rfl
variable {s : TSt}
def kH (s : TSt) (ds : List Nat) : List TObj := s.heap.map (TObj.sub (Z4y ds))
theorem Zgc (s : TSt) (ds : List Nat) (id : Nat) : rowLen (kH s ds) id = rowLen s.heap id := by
 rw [Z8, Z8, kH, List.getElem?_map]
 cases s.heap[id]? with
 | none => rfl
 | some o => exact Z31 o _
theorem Zen (hl : ∀ c ∈ Z4x s.heap hO 0 keep, c) (hnd : keep.Nodup) (hin : ∀ i ∈ keep, i < s.heap.length) : (∀ id, id < s.heap.length → id ∉ deadL hO 0 keep → rowLen s.heap id = rowLen (Z3c keep s.heap.length hO 0 (kH s (deadL hO 0 keep))) id) ∧ ∀ q, rowLen hO q = rowLen (Z3c keep s.heap.length hO 0 (kH s (deadL hO 0 keep))) (Zcc keep s.heap.length q) := by
 generalize hds : deadL hO 0 keep = ds
 have hkl : (kH s ds).length = s.heap.length := by simp [kH]
 have at_ : ∀ id q, id < s.heap.length → keep[q]? = some id → rowLen hO q = rowLen (Z3c keep s.heap.length hO 0 (kH s ds)) id := fun id q hid hq => by
  have hg := backH_get (keep := keep) (n := s.heap.length) (hO := hO) (kH s ds) 0 id (by rw [hkl]; exact hid)
  obtain ⟨o, h1, _⟩ := lens_ok keep 0 q id hl hq
  rw [Nat.zero_add] at h1 hg
  rw [idx_of hnd hq] at hg
  simp only [Z3, h1, Option.getD_some] at hg
  rw [Z8 (Z3c keep s.heap.length hO 0 (kH s ds)), hg, Z8, h1]
  exact (Z31 o _).symm
 have a1 : ∀ id, id < s.heap.length → id ∉ ds → rowLen s.heap id = rowLen (Z3c keep s.heap.length hO 0 (kH s ds)) id := fun id hid hn => by
  cases hi : idx keep id with
  | none =>
   have hg := backH_get (keep := keep) (n := s.heap.length) (hO := hO) (kH s ds) 0 id (by rw [hkl]; exact hid)
   rw [Nat.zero_add, hi] at hg
   rw [Z8 (Z3c keep s.heap.length hO 0 (kH s ds)), hg, ← Zgc s ds, Z8, List.getElem?_eq_getElem (by rw [hkl]; exact hid)]; rfl
  | some q =>
   rw [← at_ id q hid (idx_some hi)]
   obtain ⟨o, h1, h2⟩ := lens_ok keep 0 q id hl (idx_some hi)
   rcases h2 with rfl | ⟨_, h3⟩
   ·exact absurd (by rw [← hds]; exact deadL_mem keep 0 q id (idx_some hi) h1) hn
   ·rw [Nat.zero_add] at h3; exact h3.symm
 refine ⟨a1, fun q => ?_⟩
 unfold Zcc
 rw [Z3]
 cases hq : keep[q]? with
 | some i => exact at_ i q (hin i (List.mem_of_getElem? hq)) hq
 | none =>
  have hge : keep.length ≤ q := by simpa using hq
  simp only
  have e := backH_new (keep := keep) (n := s.heap.length) (hO := hO) (kH s ds) 0 (q - keep.length)
  rw [hkl] at e
  rw [Z8 (Z3c keep s.heap.length hO 0 (kH s ds)), e, Z8, show keep.length + (q - keep.length) = q by omega]
  cases hO[q]? with
  | none => rfl
  | some o => exact (Z31 o _).symm
theorem Zdq (hl : ∀ c ∈ Z4x s.heap hO 0 keep, c) (hnd : keep.Nodup) (hin : ∀ i ∈ keep, i < s.heap.length) : SubOK (Z1f keep s.heap.length) (Zag keep s.heap.length) hO (s.backL keep hO).heap := by
 have e : ∀ q, Z4r keep s.heap.length q = Zcc keep s.heap.length q := fun q => by
  unfold Z4r Zcc
  rw [Z3]
  cases keep[q]? <;> rfl
 have e2 : (s.backL keep hO).heap = Z3c keep s.heap.length hO 0 (kH s (deadL hO 0 keep)) := by rw [TSt.backL, Ze2]; rfl
 rw [e2]
 refine ⟨fun id sz => ?_, fun id sz off len => ?_, fun id i sz j => ?_, fun id q => ?_⟩
 ·simp only [Z1f, Zag, SV.toAV, e]
  rw [(Zen hl hnd hin).2 id]; exact .refl _
 all_goals
  simp only [Z1f, Zag, SV.toAV, e]
  exact .refl _
theorem killLt {n : Nat} {ds : List Nat} {H H' : List TObj} (hr : ∀ id, id < n → id ∉ ds → rowLen H id = rowLen H' id) : SubLt n (Z9t ds) (Z4y ds) H H' := by
 have hm : ∀ i, i ∈ ds ↔ memN ds i = true := fun i => ⟨fun h => by
  cases hk : memN ds i with
  | true => rfl
  | false => exact absurd h (memN_notin hk), memN_in⟩
 refine ⟨fun id sz hid => ?_, fun id sz off len _ => ?_, fun id i sz j _ => ?_, fun id q _ => ?_⟩
 all_goals
  simp only [Z9t, Z4y]
  split
  ·rename_i h
   rw [(hm id).1 h]; exact .refl _
  ·rename_i h
   have h2 : memN ds id = false := by
    cases hk : memN ds id with
    | false => rfl
    | true => exact absurd ((hm id).2 hk) h
   rw [h2]
   first
   | (simp only [SV.toAV]; rw [hr id hid h]; exact .refl _)
   | exact .refl _
theorem back_le (hw : s.wf) (hl : ∀ c ∈ Z4x s.heap hO 0 keep, c) (hnd : keep.Nodup) (hin : ∀ i ∈ keep, i < s.heap.length) (hk : keep.length ≤ hO.length) :
  StLe (s.toSt.backD (deadL hO 0 keep) keep (hO.map (TObj.toObj hO))) (s.backL keep hO).toSt := by
 obtain ⟨r1, r2⟩ := Zen hl hnd hin
 have hsb := Zdq hl hnd hin
 have e2 : s.backL keep hO = ⟨s.env.map fun p => (p.1, p.2.sub (Z4y (deadL hO 0 keep))), Z3c keep s.heap.length hO 0 (kH s (deadL hO 0 keep))⟩ := by rw [TSt.backL, Ze2]; rfl
 rw [e2] at hsb ⊢
 generalize deadL hO 0 keep = ds at *
 have hkl : (kH s ds).length = s.heap.length := by simp [kH]
 have hsl : s.toSt.heap.length = s.heap.length := by simp [TSt.toSt]
 have hlt := killLt (ds := ds) r1
 refine ⟨fun i => ?_, ?_, fun i o o' ho ho' => ?_⟩
 ·simp only [St.backD, TSt.toSt, Zf, Zn]
  rw [Z1t (SV.sub (Z4y ds)) rfl]
  exact Z9a hlt _ (hw.1 i)
 ·simp only [St.backD, Z1j, TSt.toSt, List.length_append, List.length_mapIdx, List.length_map, List.length_drop, backH_len, hkl]
 ·simp only [St.backD, Z1j] at ho
  simp only [TSt.toSt, List.getElem?_map] at ho'
  rcases Nat.lt_or_ge i s.heap.length with hlti | hge
  ·rw [List.getElem?_append_left (by simpa [hsl] using hlti), List.getElem?_mapIdx] at ho
   rw [backH_get _ 0 i (by rw [hkl]; exact hlti), Nat.zero_add, Option.map_some] at ho'
   simp only [TSt.toSt, List.getElem?_map, List.getElem?_eq_getElem hlti, Option.map_some, Option.some.injEq, List.length_map, kH] at ho ho'
   cases hi : idx keep i with
   | some q =>
    rw [hi] at ho ho'
    simp only at ho ho'
    obtain ⟨x, h1, _⟩ := lens_ok keep 0 q i hl (idx_some hi)
    rw [Nat.zero_add] at h1
    rw [h1, Option.map_some, Option.getD_some] at ho
    rw [Z3, h1, Option.getD_some] at ho'
    subst ho ho'
    exact Zd4 hsb x
   | none =>
    rw [hi] at ho ho'
    simp only [Option.getD_some] at ho ho'
    subst ho ho'
    cases hx : s.heap[i] with
    | box e cs =>
     refine ⟨rfl, ?_⟩
     exact Z2w hlt cs (hw.2 i e cs (by rw [List.getElem?_eq_getElem hlti, hx]))
    | _ => exact ObjLe.refl _
  ·rw [List.getElem?_append_right (by simpa [hsl] using hge)] at ho
   simp only [List.length_mapIdx, hsl, List.getElem?_map, List.getElem?_drop, List.length_map] at ho
   have e := backH_new (keep := keep) (n := s.heap.length) (hO := hO) (kH s ds) 0 (i - s.heap.length)
   rw [hkl, show s.heap.length + (i - s.heap.length) = i by omega] at e
   rw [e] at ho'
   cases hx : hO[keep.length + (i - s.heap.length)]? with
   | none => rw [hx] at ho'; cases ho'
   | some x =>
    rw [hx] at ho ho'
    simp only [Option.map_some, Option.some.injEq] at ho ho'
    subst ho ho'
    exact Zd4 hsb x
end
end Go.Proofs.YtnehieeplbgaiacDoor.Eng
set_option linter.unusedVariables false
set_option linter.unusedSimpArgs false
namespace Go.Proofs.YtnehieeplbgaiacDoor.Eng
open Go Go.RowKit
def FnOK (P : Program) (f : Nat) (fn : TFn) : Prop := Enters P f ∧ ∀ x r, fn.run x = some r → FPure P f (avL fn.args x) (retAV (avL fn.res r))
def Z7b (n : Nat) : (t : Ty) → Option Nat → t.den → AV
 | .slice t, some _, xs => .own n t.size 0 (List.length xs)
 | t, _, x => t.av x
def avLO (n : Nat) : (ts : List Ty) → List (Option Nat) → denL ts → List AV
 | [], _, _ => []
 | [t], os, x => [Z7b n t (ownHd os) x]
 | t :: u :: r, os, x => Z7b n t (ownHd os) x.1 :: avLO (n + (ownObj t (ownHd os) x.1).length) (u :: r) os.tail x.2
def FnOKo (P : Program) (f : Nat) (fn : TFo) : Prop := Enters P f ∧ ∀ x r, fn.run x = some r → FSpec P f [] (avL fn.args x) (fun ret h => ret = retAV (avLO 0 fn.res fn.own r) ∧ h = (ownObjs fn.res fn.own r).map (TObj.toObj []))
def FnOKw (P : Program) (f : Nat) (fn : TFw) : Prop := Enters P f ∧ fn.ins.slots.map (·.1) = List.range fn.ins.slots.length ∧ ∀ x r, fn.run x = some r →
 FSpec P f (encS fn.ins x []).toSt.heap ((Z2h (encS fn.ins x []).env 0 fn.ins.slots.length).map (SV.toAV (encS fn.ins x []).heap)) (fun ret h => ret = (retL (Z2h (encS fn.outs r []).env 0 fn.nr)).toAV (encS fn.outs r []).heap ∧ h = (encS fn.outs r []).toSt.heap)
def mapB (P : Program) (t e : Nat) : Bool := match P.underlying t with
 | some (.map kt et) => !decide (e = 0) && decide (et = e) && (match P.underlying kt with | some .string => true | _ => false)
 | some (.interface _) => decide (e = 0)
 | _ => false
def Z96 (P : Program) (f g : Nat) (sf : SFn) (xs ys : List sf.t.den) : Prop := match sf.cut with
 | none => SortPair P f g sf.t.size (xs.map sf.t.vals) (ys.map sf.t.vals)
 | some c => g = 1000000 ∧ CutPair P f sf.t.size (xs.map sf.t.vals) (ys.map sf.t.vals) (c xs)
def TrOK (P : Program) (T : Tab) (f : Nat) (b : Bool) (e : Nat) : Prop := ∃ ti, T e = some ti ∧ Enters P f ∧ match b with
 | true => Zij P f e ti
 | false => Zik P f e ti
structure CxOK (P : Program) (C : Cx) : Prop where
 T : Zh P C.T
 B : ∀ f ks fn, C.B f ks = some fn → FnOK P f fn
 BO : ∀ f ks fn, C.BO f ks = some fn → FnOKo P f fn
 mixed : P.follows .mixedOrders = true
 eqs : ∀ t, memN C.EQ t = true → eqB P t = true
 mp : ∀ t e, mapGet C.MP t = some e → mapB P t e = true
 so : ∀ f g sf, C.SO f g = some sf → Enters P f ∧ sf.t.plain = true ∧ ∀ xs ys, sf.run xs = some ys → Z96 P f g sf xs ys
 w : ∀ f ks fn, C.BW f ks = some fn → FnOKw P f fn
 tr : ∀ f b e, trGet C.TR f = some (b, e) → TrOK P C.T f b e
section
variable {P : Program} {C : Cx} {X : Ctx} {σ σ' : Nat → Option Blk} {F F' : Nat → Prop} {a : Act} {w w' : World} {s s' : TSt} {o : Oper}
theorem FSpec.leArgs {f : Nat} {h0 : List AObj} {args args' : List AV} {post : AV → List AObj → Prop} (h : FSpec P f h0 args' post) (hl : AV.leL args args') : FSpec P f h0 args post :=
 fun σ F w vs h1 h2 h3 => h σ F w vs h1 ((AV.leL_len hl).symm.trans h2) (fun j x u hx hu => by
  have hj : j < args.length := by rw [AV.leL_len hl]; exact (List.getElem?_eq_some_iff.1 hx).1
  exact RepV.le (AV.leL_get hl j _ x (List.getElem?_eq_getElem hj) hx) (h3 j _ u (List.getElem?_eq_getElem hj) hu))
theorem Zj6 {s : St} {K : St → Prop} {fop : Operand} {ar : Array Operand} {ts : Array Nat} (ho : o.op = .call { callee := .value fop, args := ar, argTypes := ts }) {f : Nat} {caps : List AV} (hf : s.ev fop = .fn f caps) (hE : Enters P f) {R : AV}
  (spec : FSpec P f [] ((ar.toList.map s.ev ++ caps).map (AV.sub (Z1o []))) (fun r h => r = R ∧ h = [])) (hd : dOK X.n o.dst) (hK : K (St.put s o.dst (R.sub (Z1f [] s.heap.length)))) : opWPG P X o K s := by
 rintro Qc next a w hn ⟨σ, F, hr⟩
 obtain ⟨us, hfv, hul, hur⟩ := RepV.fnv (hf ▸ hr.ev fop)
 let vs : List Value := ar.toList.map a.eval ++ us
 have hl : ((ar.toList.map s.ev ++ caps).map (AV.sub (Z1o []))).length = vs.length := by simp [vs, hul]
 have hrep : ∀ (j : Nat) (x : AV) (u : Value), ((ar.toList.map s.ev ++ caps).map (AV.sub (Z1o [])))[j]? = some x → vs[j]? = some u → RepV (selσ [] σ) F w x u := fun j x u hx hu => by
  rw [List.getElem?_map, Option.map_eq_some_iff] at hx
  obtain ⟨y, hy, rfl⟩ := hx
  refine RepV.sel ?_
  by_cases hj : j < ar.toList.length
  ·rw [List.getElem?_append_left (by simpa using hj), List.getElem?_map, Option.map_eq_some_iff] at hy
   obtain ⟨q, hq, rfl⟩ := hy
   simp only [vs] at hu
   rw [List.getElem?_append_left (by simpa using hj), List.getElem?_map, hq] at hu
   injection hu with hu
   rw [← hu]
   exact hr.ev _
  ·rw [List.getElem?_append_right (by simpa using Nat.not_lt.1 hj)] at hy
   simp only [vs] at hu
   rw [List.getElem?_append_right (by simpa using Nat.not_lt.1 hj)] at hu
   simp only [List.length_map] at hy hu
   exact hur _ _ _ hy hu
 have hcalls := spec (selσ [] σ) F w vs (hr.heap.sel List.nodup_nil (by simp)) hl hrep
 have hrun : (execOp a.eval o).run P w = .ok (.enter f vs.toArray) w := by
  have hva : ar.map a.eval ++ us.toArray = vs.toArray := by
   apply Array.ext'
   simp [vs]
  simp [execOp, ho, resolve, hfv, Deferred.ofValue, invoke, hE vs.toArray w]
  simpa using hva ▸ hE vs.toArray w
 unfold Oper.wp
 rw [hrun]
 show Calls P f vs.toArray w _
 refine hcalls.mono ?_
 rintro e w' ⟨ret, h', σ', F', rv, ⟨rfl, rfl⟩, rfl, h1, h2, h3, h4, h5, h6, h7⟩
 obtain ⟨h8, h9⟩ := hr.back (keep := []) List.nodup_nil (by simp) h1 h2 h3 h4 h5 (fun id hid => absurd hid (Nat.not_lt_zero _)) (Nat.zero_le _) (fun k hk => absurd hk (Nat.not_lt_zero _))
 rw [Zk2] at h8
 refine hn _ _ _ hK ⟨_, _, h8.put hd h9⟩ ⟨h3.size, fun b hb => h3.block b hb ?_⟩
 rintro ⟨id, k, h, _⟩
 simp [selσ] at h
theorem op_newG {s : St} {K : St → Prop} {fop : Operand} {ar : Array Operand} {ts : Array Nat} (ho : o.op = .call { callee := .value fop, args := ar, argTypes := ts }) {f : Nat} {caps : List AV} (hf : s.ev fop = .fn f caps) (hE : Enters P f) {R : AV} {objs : List AObj}
  (spec : FSpec P f [] ((ar.toList.map s.ev ++ caps).map (AV.sub (Z1o []))) (fun r h => r = R ∧ h = objs)) (hd : dOK X.n o.dst) (hK : K (St.put (s.back [] objs) o.dst (R.sub (Z1f [] s.heap.length)))) : opWPG P X o K s := by
 rintro Qc next a w hn ⟨σ, F, hr⟩
 obtain ⟨us, hfv, hul, hur⟩ := RepV.fnv (hf ▸ hr.ev fop)
 let vs : List Value := ar.toList.map a.eval ++ us
 have hl : ((ar.toList.map s.ev ++ caps).map (AV.sub (Z1o []))).length = vs.length := by simp [vs, hul]
 have hrep : ∀ (j : Nat) (x : AV) (u : Value), ((ar.toList.map s.ev ++ caps).map (AV.sub (Z1o [])))[j]? = some x → vs[j]? = some u → RepV (selσ [] σ) F w x u := fun j x u hx hu => by
  rw [List.getElem?_map, Option.map_eq_some_iff] at hx
  obtain ⟨y, hy, rfl⟩ := hx
  refine RepV.sel ?_
  by_cases hj : j < ar.toList.length
  ·rw [List.getElem?_append_left (by simpa using hj), List.getElem?_map, Option.map_eq_some_iff] at hy
   obtain ⟨q, hq, rfl⟩ := hy
   simp only [vs] at hu
   rw [List.getElem?_append_left (by simpa using hj), List.getElem?_map, hq] at hu
   injection hu with hu
   rw [← hu]
   exact hr.ev _
  ·rw [List.getElem?_append_right (by simpa using Nat.not_lt.1 hj)] at hy
   simp only [vs] at hu
   rw [List.getElem?_append_right (by simpa using Nat.not_lt.1 hj)] at hu
   simp only [List.length_map] at hy hu
   exact hur _ _ _ hy hu
 have hcalls := spec (selσ [] σ) F w vs (hr.heap.sel List.nodup_nil (by simp)) hl hrep
 have hrun : (execOp a.eval o).run P w = .ok (.enter f vs.toArray) w := by
  have hva : ar.map a.eval ++ us.toArray = vs.toArray := by
   apply Array.ext'
   simp [vs]
  simp [execOp, ho, resolve, hfv, Deferred.ofValue, invoke, hE vs.toArray w]
  simpa using hva ▸ hE vs.toArray w
 unfold Oper.wp
 rw [hrun]
 show Calls P f vs.toArray w _
 refine hcalls.mono ?_
 rintro e w' ⟨ret, h', σ', F', rv, ⟨rfl, rfl⟩, rfl, h1, h2, h3, h4, h5, h6, h7⟩
 obtain ⟨h8, h9⟩ := hr.back (keep := []) List.nodup_nil (by simp) h1 h2 h3 h4 h5 (fun id hid => absurd hid (Nat.not_lt_zero _)) (Nat.zero_le _) (fun k hk => absurd hk (Nat.not_lt_zero _))
 refine hn _ _ _ hK ⟨_, _, h8.put hd h9⟩ ⟨h3.size, fun b hb => h3.block b hb ?_⟩
 rintro ⟨id, k, h, _⟩
 simp [selσ] at h
theorem Z8k {t : Ty} {o : Option Nat} {x : t.den} : ∀ ob ∈ ownObj t o x, ∃ e u, ∃ xs : List u.den, ob = .row e u xs := by
 intro ob h
 unfold ownObj at h
 split at h
 ·simp at h; exact ⟨_, _, _, h⟩
 ·cases h
theorem ownObjs_row : ∀ (ts : List Ty) (os : List (Option Nat)) (x : denL ts), ∀ ob ∈ ownObjs ts os x, ∃ e u, ∃ xs : List u.den, ob = .row e u xs
 | [], _, _, ob, h => by cases h
 | [t], os, x, ob, h => Z8k ob h
 | t :: u :: r, os, x, ob, h => by
  rcases List.mem_append.1 h with h | h
  ·exact Z8k ob h
  ·exact ownObjs_row (u :: r) os.tail x.2 ob h
theorem Zgb {ob : TObj} (h : ∃ e u, ∃ xs : List u.den, ob = .row e u xs) (f : AV → AV) (H H' : List TObj) : (ob.toObj H).sub f = ob.toObj H' := by
 obtain ⟨e, u, xs, rfl⟩ := h
 rfl
theorem Zep (m L : Nat) (t : Ty) (o : Option Nat) (x : t.den) : (Z7b m t o x).sub (Z1f [] L) = Z7b (L + m) t o x := by
 cases t with
 | slice u =>
  cases o with
  | none => exact Z1h _ (.slice u) x
  | some e => simp [Z7b, AV.sub, Z1f, Z4r]
 | int k => exact Z1h _ (.int k) x
 | byte => exact Z1h _ .byte x
 | bool => exact Z1h _ .bool x
 | str => exact Z1h _ .str x
 | one u => exact Z1h _ (.one u) x
 | pair a b => exact Z1h _ (.pair a b) x
 | ptr u => exact Z1h _ (.ptr u) x
 | nilS => exact Z1h _ .nilS x
 | nilI => exact Z1h _ .nilI x
 | adr => exact Z1h _ .adr x
 | mp t => exact Z1h _ (.mp t) x
 | mq t => exact Z1h _ (.mq t) x
 | fnc f => exact Z1h _ (.fnc f) x
 | clo f c => exact Z1h _ (.clo f c) x
 | ref t => exact Z1h _ (.ref t) x
theorem Zcd {L : Nat} : ∀ (ts : List Ty) (os : List (Option Nat)) (x : denL ts) (m : Nat), (avLO m ts os x).map (AV.sub (Z1f [] L)) = avLO (L + m) ts os x
 | [], _, _, _ => rfl
 | [t], os, x, m => congrArg (fun z => [z]) (Zep m L t (ownHd os) x)
 | t :: u :: r, os, x, m => by
  simp only [avLO, List.map_cons]
  rw [Zep, Zcd (u :: r) os.tail x.2, Nat.add_assoc]
theorem Zdx {H : List TObj} (n : Nat) (t : Ty) (o : Option Nat) (x : t.den) (h : ∀ ob, (ownObj t o x)[0]? = some ob → H[n]? = some ob) : (Zj3 n t o x).toAV H = Z7b n t o x := by
 cases t with
 | slice u =>
  cases o with
  | none => rfl
  | some e =>
   have := h (.row e u x) rfl
   simp only [SV.toAV, Zj3, Z7b]
   rw [Z4 (by rw [Z3]; exact this)]
 | int k => rfl
 | byte => rfl
 | bool => rfl
 | str => rfl
 | one u => rfl
 | pair a b => rfl
 | ptr u => rfl
 | nilS => rfl
 | nilI => rfl
 | adr => rfl
 | mp t => rfl
 | mq t => rfl
 | fnc f => rfl
 | clo f c => rfl
 | ref t => rfl
theorem Zba {H : List TObj} : ∀ (ts : List Ty) (os : List (Option Nat)) (x : denL ts) (n : Nat), (∀ j ob, (ownObjs ts os x)[j]? = some ob → H[n + j]? = some ob) → SV.toAVL H (Zbb n ts os x) = avLO n ts os x
 | [], _, _, _, _ => rfl
 | [t], os, x, n, h => congrArg (fun z => [z]) (Zdx n t (ownHd os) x (fun ob hob => h 0 ob hob))
 | t :: u :: r, os, x, n, h => by
  simp only [Zbb, avLO, SV.toAVL]
  rw [Zdx n t (ownHd os) x.1 (fun ob hob => h 0 ob (by
   simp only [ownObjs]
   rw [List.getElem?_append_left (List.getElem?_eq_some_iff.1 hob).1]; exact hob)), Zba (u :: r) os.tail x.2 _ (fun j ob hob => by
   rw [Nat.add_assoc]
   refine h _ ob ?_
   simp only [ownObjs]
   rw [List.getElem?_append_right (Nat.le_add_right _ _), Nat.add_sub_cancel_left]; exact hob)]
theorem Zf3 (f : AV → AV) (l : List AV) : (retAV l).sub f = retAV (l.map (AV.sub f)) := by
 cases l with
 | nil => rfl
 | cons x r =>
  cases r with
  | nil => rfl
  | cons y r => simp only [retAV, List.map_cons, AV.sub, AV.subL_eq]
theorem Zfy {H : List TObj} {n : Nat} (ts : List Ty) (os : List (Option Nat)) (x : denL ts) (h : ∀ j ob, (ownObjs ts os x)[j]? = some ob → H[n + j]? = some ob) : (Z8e n ts os x).toAV H = retAV (avLO n ts os x) := by
 have e := Zba ts os x n h
 unfold Z8e
 cases hs : Zbb n ts os x with
 | nil => rw [hs] at e; rw [← e]; rfl
 | cons x r =>
  rw [hs] at e
  cases r with
  | nil => rw [← e]; rfl
  | cons x' r => rw [← e]; rfl
theorem Zj0 (hw : s.wf) {l : List TObj} (hl : ∀ ob ∈ l, ∃ e u, ∃ xs : List u.den, ob = .row e u xs) : StLe { s.toSt with heap := s.toSt.heap ++ l.map (TObj.toObj []) } (s.pushL l).toSt := by
 have e1 : (s.pushL l).toSt.heap = s.toSt.heap ++ l.map (TObj.toObj []) := by
  simp only [TSt.toSt, TSt.pushL, List.map_append]
  congr 1
  ·refine List.map_congr_left fun o ho => ?_
   cases o with
   | box e cs =>
    obtain ⟨i, hi⟩ := List.getElem?_of_mem ho
    simp only [TObj.toObj]; rw [Z29 cs (hw.2 i e cs hi)]
   | _ => rfl
  ·refine List.map_congr_left fun o ho => ?_
   obtain ⟨e, u, xs, rfl⟩ := hl o ho
   rfl
 refine ⟨fun i => ?_, e1.symm ▸ rfl, fun i o o' ho ho' => ?_⟩
 ·simp only [TSt.toSt, Zf, TSt.pushL]
  rw [Z73 _ (hw.1 i)]; exact .refl _
 ·rw [e1] at ho'
  simp only at ho
  rw [ho] at ho'; cases ho'; exact .refl _
theorem Zai {f : AV → AV} {h H : List TObj} (hL : Lends f h H) : ∀ (ts : List Ty) (xs : List SV) (y : denL ts), asTL h ts xs = some y → AV.leL ((xs.map (SV.toAV H)).map (AV.sub f)) (avL ts y) := by
 intro ts
 induction ts with
 | nil =>
  intro xs y hy
  cases xs with
  | nil => exact trivial
  | cons x l => cases hy
 | cons t r ih =>
  intro xs y hy
  cases xs with
  | nil => cases hy
  | cons x l =>
   simp only [asTL] at hy
   cases hp : asT h t x with
   | none => rw [hp] at hy; cases hy
   | some p =>
    rw [hp] at hy
    simp only at hy
    cases hq : asTL h r l with
    | none => rw [hq] at hy; cases r <;> cases hy
    | some q =>
     rw [hq] at hy
     have h2 := ih l q hq
     cases r with
     | nil =>
      cases hy
      exact ⟨Z6n hL hp, h2⟩
     | cons u r =>
      cases hy
      exact ⟨Z6n hL hp, h2⟩
theorem Zdo {h : List TObj} : ∀ (ts : List Ty) (y : denL ts), SV.toAVL h (svL ts y) = avL ts y
 | [], _ => rfl
 | [t], _ => rfl
 | t :: u :: r, y => by simp only [svL, SV.toAVL, avL]; rw [Zdo (u :: r) y.2]; rfl
theorem Zdn {h : List TObj} (ts : List Ty) (y : denL ts) : (Zcv ts y).toAV h = retAV (avL ts y) := by
 have e := Zdo (h := h) ts y
 unfold Zcv
 cases hs : svL ts y with
 | nil => rw [hs] at e; rw [← e]; rfl
 | cons x r =>
  rw [hs] at e
  cases r with
  | nil => rw [← e]; rfl
  | cons x' r => rw [← e]; rfl
theorem Zb7 {l : List AV} (h : ∀ x ∈ l, x.plain = true) : AV.plainL l = true := by
 induction l with
 | nil => rfl
 | cons x r ih => simp only [AV.plainL, h x (List.mem_cons_self ..), ih (fun y hy => h y (List.mem_cons_of_mem _ hy))]; rfl
theorem Ty.plain_cells : ∀ (t : Ty) (x : t.den), t.plain = true → ∀ y ∈ t.cells x, y.plain = true
 | .one t, x, h => t.plain_cells x h
 | .pair a b, x, h => fun y hy => by
  simp only [Ty.plain, Bool.and_eq_true] at h
  rcases List.mem_append.1 hy with h1 | h1
  ·exact a.plain_cells _ h.1 y h1
  ·exact b.plain_cells _ h.2 y h1
 | .int _, _, _ | .byte, _, _ | .bool, _, _ | .str, _, _ => fun y hy => by simp [Ty.cells] at hy; subst hy; rfl
theorem Ty.plain_av {t : Ty} (x : t.den) (h : t.plain = true) : (t.av x).plain = true := by
 cases ha : t.isAgg with
 | true => rw [Ty.av_agg ha]; exact Zb7 (t.plain_cells x h)
 | false => exact t.plain_cells x h _ (by rw [Ty.cells_leaf ha]; simp)
theorem avL_plain : ∀ (ts : List Ty) (y : denL ts), allPlain ts = true → ∀ x ∈ avL ts y, x.plain = true
 | [], _, _ => fun x hx => by simp [avL] at hx
 | [t], y, h => fun x hx => by
  simp [avL] at hx
  subst hx
  simp only [allPlain, Bool.and_true] at h
  exact t.plain_av y h
 | t :: u :: r, y, h => fun x hx => by
  simp only [allPlain, Bool.and_eq_true] at h
  rcases List.mem_cons.1 hx with rfl | hx
  ·exact t.plain_av _ h.1
  ·exact avL_plain (u :: r) y.2 (by simp only [allPlain, Bool.and_eq_true]; exact h.2) x hx
theorem Zd0 {l : List AV} (h : ∀ x ∈ l, x.plain = true) : (retAV l).plain = true := by
 unfold retAV
 split
 ·exact h _ (by simp)
 ·exact Zb7 h
theorem Zib (f : AV → AV) : ∀ (ts : List Ty) (y : denL ts), (avL ts y).map (AV.sub f) = avL ts y
 | [], _ => rfl
 | [t], y => congrArg (fun z => [z]) (Z1h f t y)
 | t :: u :: r, y => by simp only [avL, List.map_cons]; rw [Z1h, Zib f (u :: r) y.2]
theorem Zgd (f : AV → AV) (ts : List Ty) (y : denL ts) : (retAV (avL ts y)).sub f = retAV (avL ts y) := by
 have h := Zib f ts y
 unfold retAV
 split
 ·rename_i x hx
  rw [hx] at h
  simpa using h
 ·rw [AV.sub, AV.subL_eq, h]
theorem Zec (s : TSt) (l : List Operand) : l.map s.toSt.ev = (l.map s.ev).map (SV.toAV s.heap) := by
 rw [List.map_map]; exact List.map_congr_left fun x _ => TSt.ev_ok s x
theorem Ze8 (h : List TObj) (x : SV) : (fnV x).toAV h = x.toAV h := by
 unfold fnV
 split <;> first | rfl | exact congrArg (AV.fn _) (Z2d _ _)
theorem Z8v (hC : CxOK P C) (hd : dOK X.n o.dst) {fop : Operand} {ar : Array Operand} {ts : Array Nat} (ho : o.op = .call { callee := .value fop, args := ar, argTypes := ts }) {g : Nat} {fn : TFn} (hfn : FnOK P g fn) : Z5v P X o s (Z6x C s fop g ar.toList fn) := by
 obtain ⟨hE, hspec⟩ := hfn
 unfold Z6x
 generalize hs1 : frzFor C.TY s (s.ev fop :: ar.toList.map s.ev) = s1
 have hfrz := Z36 (X := X) (C := C) (s := s) (s.ev fop :: ar.toList.map s.ev)
 rw [hs1] at hfrz
 simp only
 split
 ·rename_i g' caps hf'
  split
  ·rename_i x hx
   split
   ·rename_i hg
    subst hg
    refine ⟨hfrz.2, fun y hy K hK => opWPG.from hfrz.1 ?_⟩
    have h1 := Zai (Lends.none (Z1o []) s1.heap) _ _ _ hx
    have h2 := hspec x y hy
    refine Zj6 (R := retAV (avL fn.res y)) ho (f := g') (caps := SV.toAVL s1.heap caps) (by rw [TSt.ev_ok, ← Ze8, hf']; rfl) hE ((h2 : FSpec P g' [] _ _).leArgs ?_) hd ⟨s1.put o.dst (Zcv fn.res y), ?_, hK⟩
    ·rw [List.map_append] at h1
     rw [Zec, SV.toAVL_eq]
     simpa using h1
    ·rw [TSt.put_ok, Zdn, Zgd]; exact .refl _ _
   ·trivial
  ·trivial
 ·trivial
theorem Zdi (hC : CxOK P C) (hd : dOK X.n o.dst) {fop : Operand} {ar : Array Operand} {ts : Array Nat} (ho : o.op = .call { callee := .value fop, args := ar, argTypes := ts }) : Z5v P X o s (Zjz C s fop ar.toList) := by
 unfold Zjz
 split
 ·rename_i g caps hf
  split
  ·rename_i fn hfn
   have hfn' := hC.B g _ fn hfn
   obtain ⟨hE, hspec⟩ := hC.B g _ fn hfn
   split
   ·rename_i hpl
    split
    ·rename_i x hx
     refine ⟨.refl _, fun y hy K hK => ?_⟩
     have h1 := Zai (Zbr s) _ _ _ hx
     have h2 := hspec x y hy
     refine op_lent (R := retAV (avL fn.res y)) ho (f := g) (caps := SV.toAVL s.heap caps) (by rw [TSt.ev_ok, ← Ze8, hf]; rfl) hE ((h2 : FSpec P g [] _ _).leArgs ?_) (Zd0 (avL_plain _ _ hpl)) hd ⟨s.put o.dst (Zcv fn.res y), ?_, hK⟩
     ·rw [List.map_append] at h1
      rw [Zec, SV.toAVL_eq]
      simpa using h1
     ·rw [TSt.put_ok, Zdn]; exact .refl _ _
    ·exact Z8v hC hd ho hfn'
   ·exact Z8v hC hd ho hfn'
  ·split
   ·rename_i fn hfn
    obtain ⟨hE, hspec⟩ := hC.BO g _ fn hfn
    generalize hs1 : frzFor C.TY s (s.ev fop :: ar.toList.map s.ev) = s1
    have hfrz := Z36 (X := X) (C := C) (s := s) (s.ev fop :: ar.toList.map s.ev)
    rw [hs1] at hfrz
    simp only
    split
    ·rename_i g' caps' hf'
     split
     ·rename_i x hx
      split
      ·rename_i hg
       subst hg
       refine ⟨hfrz.2, fun y hy K hK => opWPG.from hfrz.1 ?_⟩
       have h1 := Zai (Lends.none (Z1o []) s1.heap) _ _ _ hx
       have h2 := hspec x y hy
       intro Qc next a w hn hr
       have hw : s1.wf := by obtain ⟨σ, F, hr'⟩ := hr; exact Zap hr'
       have hlen : s1.toSt.heap.length = s1.heap.length := by simp [TSt.toSt]
       refine op_newG (R := retAV (avLO 0 fn.res fn.own y)) (objs := (ownObjs fn.res fn.own y).map (TObj.toObj [])) ho (f := g') (caps := SV.toAVL s1.heap caps') (by rw [TSt.ev_ok, ← Ze8, hf']; rfl) hE ((h2 : FSpec P g' [] _ _).leArgs ?_) hd ⟨(s1.pushL (ownObjs fn.res fn.own y)).put o.dst (Z8e s1.heap.length fn.res fn.own y), ?_, hK⟩ Qc next a w hn hr
       ·rw [List.map_append] at h1
        rw [Zec, SV.toAVL_eq]
        simpa using h1
       ·rw [TSt.put_ok]
        refine (StLe.put (s := s1.toSt.back [] ((ownObjs fn.res fn.own y).map (TObj.toObj []))) ?_ (AV.le_of_eq ?_) _).imp
        ·have h3 := Zj0 hw (ownObjs_row fn.res fn.own y)
         have e : s1.toSt.back [] ((ownObjs fn.res fn.own y).map (TObj.toObj [])) = { s1.toSt with heap := s1.toSt.heap ++ (ownObjs fn.res fn.own y).map (TObj.toObj []) } := by
          simp only [St.back, Z1j, idx, List.drop_zero, List.length_nil, List.map_map]
          congr 1
          congr 1
          ·apply List.ext_getElem?
           intro i
           simp
          ·refine List.map_congr_left fun ob hob => ?_
           exact Zgb (ownObjs_row _ _ _ ob hob) _ _ _
         rw [e]; exact h3
        ·rw [Zf3, Zcd, hlen, Nat.add_zero]
         rw [Zfy (H := (s1.pushL (ownObjs fn.res fn.own y)).heap) fn.res fn.own y (fun j ob hob => by
          simp only [TSt.pushL]
          rw [List.getElem?_append_right (Nat.le_add_right _ _), Nat.add_sub_cancel_left]; exact hob)]
      ·trivial
     ·trivial
    ·trivial
   ·trivial
 ·trivial
theorem nil_ok (hT : Zh P C.T) (hd : dOK X.n o.dst) {op : BinOp} {t t' : Nat} {y z : Operand} (ho : o.op = .binOp op t y z t') {r : R2} (hr : nilT C s op t (s.ev y) (s.ev z) = some r) : Tell2 P X o s r := by
 unfold nilT at hr
 split at hr
 ·rename_i e m p zv b ht hz hb
  have hop : op = .eql ∨ op = .neq := by
   unfold eqOp at hb
   split at hb
   ·exact .inl ‹_›
   ·split at hb
    ·exact .inr ‹_›
    ·cases hb
  have hbv : decide (op = .neq) = b := by
   unfold eqOp at hb
   split at hb
   ·rename_i h; subst h; cases hb; rfl
   ·split at hb
    ·rename_i h; subst h; cases hb; rfl
    ·cases hb
  have key : ∀ {c1 c2 : Prop} {c : Prop}, Z9n (s.toSt.ev y) = some (c1, c2) → (c1 → c) → (c2 → ¬ c) → Tell2 P X o s (.nq c b) := by
   intro c1 c2 c hn h1 h2 K hK1 hK2
   refine Zj7 hop ho hT ht (by rw [TSt.ev_ok, hz]; rfl) hn hd (fun hc => ⟨_, ?_, hK1 (h1 hc)⟩) (fun hc b' => ⟨_, ?_, hK2 (h2 hc) b'⟩)
   ·rw [TSt.put_ok, hbv]; exact .refl _ _
   ·rw [TSt.put_ok]; exact .refl _ _
  split at hr
  ·rename_i u xs hy
   cases hr
   refine key (c1 := List.map u.cells xs ≠ []) (c2 := List.map u.cells xs = []) (by rw [TSt.ev_ok, hy]; rfl) (fun h h' => h ?_) (fun h h' => h' ?_)
   ·exact (congrArg (List.map u.cells) (h' : (xs : List u.den) = [])).trans rfl
   ·exact List.map_eq_nil_iff.1 h
  ·rename_i id sz hy
   split at hr
   ·rename_i e' u xs hq
    cases hr
    refine key (c1 := rowLen s.heap id ≠ 0) (c2 := rowLen s.heap id = 0) (by rw [TSt.ev_ok, hy]; rfl) (fun h h' => h ?_) (fun h h' => h' ?_)
    ·rw [Z4 hq, h']; rfl
    ·rw [Z4 hq] at h; exact List.eq_nil_of_length_eq_zero h
   ·cases hr; trivial
  ·rename_i id sz off len hy
   cases hr
   exact key (c1 := len ≠ 0) (c2 := len = 0) (by rw [TSt.ev_ok, hy]; rfl) (fun h => h) (fun h h' => h' h)
  ·cases hr; trivial
 ·cases hr
theorem Zhv {h : List TObj} {T : Tab} {ft : Nat} {x y : SV} {q : Bool} (he : Zhw T ft x y = some q) : Za8 T ft (x.toAV h) (y.toAV h) = some q := by
 unfold Zhw at he
 split at he
 ·rename_i ht
  split at he
  ·rename_i k a k' b hx hy
   split at he
   ·rename_i hk
    cases he
    simp only [Z17 hx, Z17 hy, Za8, ht, hk, if_true]
    rfl
   ·cases he
  ·cases he
 ·rename_i ht
  split at he
  ·rename_i a b hx hy
   cases he
   simp only [Z3b hx, Z3b hy, Za8, ht]
   rfl
  ·cases he
 ·rename_i ht
  split at he
  ·rename_i a b hx hy
   cases he
   simp only [Z2x hx, Z2x hy, Za8, ht]
   rfl
  ·cases he
 ·cases he
theorem Z7p {h : List TObj} {T : Tab} : ∀ (fs : List (Nat × Nat)) (xs ys : List SV) (q : Bool), Z5k T fs xs ys = some q → Z51 T fs (SV.toAVL h xs) (SV.toAVL h ys) = some q
 | [], xs, ys, q, he => by simp only [Z5k] at he; cases he; rfl
 | (off, ft) :: r, xs, ys, q, he => by
  simp only [Z5k] at he
  split at he
  ·rename_i x y hx hy
   split at he
   ·rename_i p q' hp hq
    cases he
    have h1 := Zhv (h := h) hp
    have h2 := Z7p (h := h) r xs ys q' hq
    simp only [Z51, Zax, hx, hy, Option.map_some, Option.getD_some, h1, h2]
   ·cases he
  ·cases he
theorem Zig {h : List TObj} {x : SV} {xs : List SV} (he : aggS x = some xs) : x.toAV h = .agg (SV.toAVL h xs) := by
 unfold aggS at he
 split at he
 ·cases he; rfl
 ·rename_i t y
  split at he
  ·rename_i ht
   cases he
   rw [Z2d]
   exact Ty.av_agg ht y
  ·cases he
 ·cases he
theorem eqs_ok (hC : CxOK P C) (hd : dOK X.n o.dst) {op : BinOp} {t t' : Nat} {y z : Operand} (ho : o.op = .binOp op t y z t') {r : R2} (hr : eqsT C s op t (s.ev y) (s.ev z) = some r) : Tell2 P X o s r := by
 unfold eqsT at hr
 split at hr
 ·rename_i fs m p zv xs ys b ht hx hy hb
  split at hr
  ·rename_i q hq hE
   cases hr
   refine ⟨.refl _, fun K hK => ?_⟩
   refine opT.of (s1 := s) (so := s.toSt) (fun K' hK' => op_eqs hC.T hb ho ht (hC.eqs t hE) (by rw [TSt.ev_ok, Zig hx]) (by rw [TSt.ev_ok, Zig hy]) (Z7p (h := s.heap) _ _ _ _ hq) hd hK') (.refl _) (AV.le_of_eq ?_) hK
   cases b <;> cases q <;> rfl
  ·cases hr; trivial
 ·cases hr
theorem ifc_ok (hC : CxOK P C) (hd : dOK X.n o.dst) {op : BinOp} {t t' : Nat} {y z : Operand} (ho : o.op = .binOp op t y z t') {x : SV} (hr : ifcT C op t (s.ev y) z = some x) : Tell2 P X o s (.ok s x) := by
 unfold ifcT at hr
 split at hr
 ·rename_i b hb hm hn
  cases hr
  have hu : ∃ ms, P.underlying t = some (.interface ms) := by
   have h1 := hC.mp t 0 hm
   unfold mapB at h1
   split at h1
   ·rename_i kt et h2
    rw [Bool.and_eq_true, Bool.and_eq_true] at h1
    exact absurd h1.1.1 (by decide)
   ·rename_i ms h2; exact ⟨ms, h2⟩
   ·cases h1
  obtain ⟨ms, hu⟩ := hu
  have hy : s.toSt.ev y = .v .nilIface := by
   rw [TSt.ev_ok]
   unfold isNI at hn
   split at hn
   ·rename_i h; rw [h]; rfl
   ·rename_i h; rw [h]; rfl
   ·cases hn
  refine ⟨.refl _, fun K hK => ?_⟩
  refine opT.of (s1 := s) (so := s.toSt) (fun K' hK' => op_ifc hb ho hu hy hd hK') (.refl _) (AV.le_of_eq ?_) hK
  cases b <;> rfl
 ·cases hr
theorem Z8d {u : Ty} {z : Value} (h : zeroVB0 u z = true) : u.scal = true ∧ z = u.vl u.d := by
 unfold zeroVB0 at h
 split at h
 ·split at h
  ·simp only [Bool.and_eq_true, decide_eq_true_eq] at h
   obtain ⟨rfl, rfl⟩ := h
   exact ⟨rfl, rfl⟩
  ·cases h
 ·split at h
  ·obtain rfl := of_decide_eq_true h
   exact ⟨rfl, rfl⟩
  ·cases h
 ·split at h
  ·rename_i b
   cases b with
   | true => cases h
   | false => exact ⟨rfl, rfl⟩
  ·cases h
 ·split at h
  ·rename_i b
   have h0 := of_decide_eq_true h
   refine ⟨rfl, ?_⟩
   show Value.string b = .string ByteArray.empty
   congr 1
   apply ByteArray.ext
   exact Array.eq_empty_of_size_eq_zero h0
  ·cases h
 ·cases h
theorem Zb6 {t : Ty} (h : t.scal = true) : t.mval = true ∧ ∀ x : t.den, t.pvs x = [t.vl x] := by
 cases t <;> first | exact ⟨rfl, fun x => rfl⟩ | cases h
theorem Zes {t : Ty} (ht : ∀ a b, t ≠ .pair a b) {l r : List Value} (h : zeroPs t l = some r) : t.mval = true ∧ l = t.pvs t.d ++ r := by
 cases l with
 | nil =>
  unfold zeroPs at h
  split at h
  ·exact absurd rfl (ht _ _)
  ·cases h
  ·rename_i hl; cases hl
 | cons v l =>
  unfold zeroPs at h
  split at h
  ·exact absurd rfl (ht _ _)
  ·cases h
  ·rename_i hl
   cases hl
   split at h
   ·rename_i hz
    cases h
    obtain ⟨h1, h2⟩ := Z8d hz
    obtain ⟨h3, h4⟩ := Zb6 h1
    exact ⟨h3, by rw [h4, h2]; rfl⟩
   ·cases h
theorem zeroPs_ok : ∀ (t : Ty) (l r : List Value), zeroPs t l = some r → t.mval = true ∧ l = t.pvs t.d ++ r
 | .pair a b, l, r, h => by
  unfold zeroPs at h
  split at h
  ·rename_i r1 h1
   obtain ⟨m1, e1⟩ := zeroPs_ok a _ _ h1
   obtain ⟨m2, e2⟩ := zeroPs_ok b _ _ h
   refine ⟨by simp only [Ty.mval, m1, m2, Bool.and_self], ?_⟩
   rw [e1, e2, ← List.append_assoc]; rfl
  ·cases h
 | .int _, _, _, h | .byte, _, _, h | .bool, _, _, h | .str, _, _, h | .slice _, _, _, h | .one _, _, _, h | .ptr _, _, _, h | .nilS, _, _, h | .nilI, _, _, h | .adr, _, _, h | .mp _, _, _, h | .mq _, _, _, h | .fnc _, _, _, h | .clo _ _, _, _, h | .ref _, _, _, h => Zes (fun _ _ e => by cases e) h
theorem Zfl {u : Ty} {z : Value} (h : Zfm u z = true) : u.mval = true ∧ z = u.vl u.d := by
 unfold Zfm at h
 split at h
 ·rename_i a b
  split at h
  ·rename_i vs
   split at h
   ·rename_i hz
    obtain ⟨h1, h2⟩ := zeroPs_ok _ _ _ hz
    refine ⟨h1, ?_⟩
    rw [List.append_nil] at h2
    show Value.agg vs = .agg ((Ty.pair a b).pvs (Ty.pair a b).d).toArray
    rw [← h2]
   ·cases h
  ·cases h
 ·obtain ⟨h1, h2⟩ := Z8d h
  exact ⟨(Zb6 h1).1, h2⟩
theorem Z6t (hC : CxOK P C) {t : Nat} {u : Ty} (h : Zf8 C t = some u) : ∃ kt et i, P.underlying t = some (.map kt et) ∧ P.underlying kt = some .string ∧ TIOk P et i ∧ u.mval = true ∧ i.zero = u.vl u.d := by
 unfold Zf8 at h
 split at h
 ·rename_i e he
  have hb := hC.mp t e he
  split at h
  ·cases h
  rename_i hne
  have hne := of_decide_eq_false hne
  split at h
  ·rename_i i u' hi hu
   split at h
   ·rename_i hz
    cases h
    obtain ⟨hs, hz⟩ := Zfl hz
    unfold mapB at hb
    split at hb
    ·rename_i kt et hm
     rw [Bool.and_eq_true, Bool.and_eq_true] at hb
     obtain ⟨⟨_, h1⟩, h2⟩ := hb
     obtain rfl := of_decide_eq_true h1
     split at h2
     ·rename_i hk
      exact ⟨kt, et, i, hm, hk, hC.T _ _ hi, hs, hz⟩
     ·cases h2
    ·exact absurd (of_decide_eq_true hb) hne
    ·cases hb
   ·cases h
  ·cases h
 ·cases h
theorem Z61 (hC : CxOK P C) (hd : dOK X.n o.dst) {t : Nat} (ho : o.op = .makeMap t none) : Z5v P X o s (Z6u C s t) := by
 unfold Z6u
 split
 ·rename_i u hu
  refine ⟨Zx _, fun K hK => opWPG.wf fun hw => ?_⟩
  have hlen : s.toSt.heap.length = s.heap.length := by simp [TSt.toSt]
  refine opTG.of (fun K' hK' => Zd2 ho hd hK') (Z6f hw (ob := .mapo u []) (fun e' cs h => by cases h) rfl) ?_ hK
  rw [hlen]; exact .refl _
 ·trivial
theorem Z7h (hC : CxOK P C) (hd : dOK X.n o.dst) {t : Nat} {x k : Operand} {b : Bool} (ho : o.op = .lookup t x k b) : Z5v P X o s (Z9r C s t (s.ev x) (s.ev k) b) := by
 unfold Z9r
 split
 ·rename_i u id q hu hx hq
  obtain ⟨kt, et, i, h1, h2, h3, h4, h5⟩ := Z6t hC hu
  split
  ·rename_i u' es hob
   split
   ·rename_i es' hes
    obtain ⟨e1, h9⟩ := Za hes
    injection e1 with e1
    injection e1 with e0 e1
    have e2 := e1.symm
    clear e1
    subst e2
    obtain rfl : es = es' := h9
    refine ⟨.refl _, fun K hK => ?_⟩
    have hob' : s.toSt.heap[id]? = some (.mapo (mapV u es)) := by rw [TSt.heap_get, hob]; rfl
    refine opTG.of (s1 := s) (so := s.toSt) (fun K' hK' => Zf4 ho h1 h2 h3 (by rw [TSt.ev_ok, hx]; rfl) (by rw [TSt.ev_ok, Z2x hq]) hob' hd hK') (.refl _) ?_ hK
    have e : (Z3k q (mapV u es)).getD i.zero = u.vl (Option.getD (mget q es) u.d) := by
     rw [Z7f, h5]; cases mget q es <;> rfl
    have e2 : (Z3k q (mapV u es)).isSome = Option.isSome (mget q es) := by
     rw [Z7f]; cases mget q es <;> rfl
    have e3 : ∀ h : List TObj, (SV.val u (Option.getD (mget q es) u.d)).toAV h = Z55 (u.vl (Option.getD (mget q es) u.d)) := fun h => Ty.av_mv h4 _
    unfold lkAV
    rw [e, e2]
    cases b with
    | true =>
     refine AV.le_of_eq ?_
     show AV.tup _ = AV.tup [(SV.val u (Option.getD (mget q es) u.d)).toAV s.heap, AV.v (.bool (Option.isSome (mget q es)))]
     rw [e3]
    | false => exact AV.le_of_eq (e3 _).symm
   ·trivial
  ·trivial
 ·rename_i u u' es q hu hx hq
  obtain ⟨kt, et, i, h1, h2, h3, h4, h5⟩ := Z6t hC hu
  split
  ·rename_i es' hes
   obtain ⟨e1, h9⟩ := Za hes
   subst e1
   obtain rfl : es = es' := h9
   refine ⟨.refl _, fun K hK => ?_⟩
   refine opTG.of (s1 := s) (so := s.toSt) (fun K' hK' => Zf5 ho h1 h2 h3 (es := mapV u es) (by rw [TSt.ev_ok, hx]; rfl) (by rw [TSt.ev_ok, Z2x hq]) hd hK') (.refl _) ?_ hK
   have e : ∀ es : List (ByteArray × u.den), (Z3k q (mapV u es)).getD i.zero = u.vl (Option.getD (mget q es) u.d) := fun es => by
    rw [Z7f, h5]; cases mget q es <;> rfl
   have e2 : ∀ es : List (ByteArray × u.den), (Z3k q (mapV u es)).isSome = Option.isSome (mget q es) := fun es => by
    rw [Z7f]; cases mget q es <;> rfl
   have e3 : ∀ h : List TObj, (SV.val u (Option.getD (mget q es) u.d)).toAV h = Z55 (u.vl (Option.getD (mget q es) u.d)) := fun h => Ty.av_mv h4 _
   unfold lkAV
   rw [e es, e2 es]
   cases b with
   | true =>
    refine AV.le_of_eq ?_
    show AV.tup _ = AV.tup [(SV.val u (Option.getD (mget q es) u.d)).toAV s.heap, AV.v (.bool (Option.isSome (mget q es)))]
    rw [e3]
   | false => exact AV.le_of_eq (e3 _).symm
  ·trivial
 ·trivial
theorem Ziz (hC : CxOK P C) (hd : dOK X.n o.dst) {t : Nat} {x : Operand} (ho : o.op = .range t x) : Z5v P X o s (Zgf C s t (s.ev x)) := by
 unfold Zgf
 split
 ·rename_i u u' es hu hx
  obtain ⟨kt, et, i, h1, h2, h3, h4, h5⟩ := Z6t hC hu
  split
  ·rename_i es' hes
   obtain ⟨e1, h9⟩ := Za hes
   subst e1
   obtain rfl : es = es' := h9
   refine ⟨Zx _, fun K hK => opWPG.wf fun hw => ?_⟩
   have hlen : s.toSt.heap.length = s.heap.length := by simp [TSt.toSt]
   refine opTG.of (fun K' hK' => Zj5 ho h1 (es := mapV u es) (by rw [TSt.ev_ok, hx]; rfl) hd hK') (Z6f hw (ob := .iter u es) (fun e' cs h => by cases h) ⟨rfl, rfl⟩) ?_ hK
   rw [hlen]; exact .refl _
  ·trivial
 ·trivial
theorem Zbq (hC : CxOK P C) (hm : X.m = C.m) (hd : dOK X.n o.dst) {t : Nat} {x k v : Operand} (ho : o.op = .mapUpdate t x k v) : Tell2 P X o s (Z60 C s t (s.ev x) (s.ev k) (s.ev v)) := by
 unfold Z60
 split
 ·rename_i u id q hu hx hq
  obtain ⟨kt, et, i, h1, h2, h3, h4, h5⟩ := Z6t hC hu
  split
  ·rename_i u' es hob
   split
   ·rename_i es' y hes hy
    obtain ⟨e1, h9⟩ := Za hes
    injection e1 with e1
    injection e1 with e0 e1
    have e2 := e1.symm
    clear e1
    subst e2
    obtain rfl : es = es' := h9
    refine ⟨.of _ _ rfl, fun K hK => ?_⟩
    have hob' : s.toSt.heap[id]? = some (.mapo (mapV u es)) := by rw [TSt.heap_get, hob]; rfl
    have hv : AV.le (s.toSt.ev v) (Z55 (u.vl y)) := by
     have h6 := Zaj (h := s.heap) hy
     rw [Ty.av_mv h4] at h6
     rw [TSt.ev_ok]; exact h6
    have hid : id < s.heap.length := by rw [Z3] at hob; exact (List.getElem?_eq_some_iff.1 hob).1
    have hrow : ∀ j, rowLen (setH s.heap id (.mapo u (mset q y es))) j = rowLen s.heap j := fun j => by
     unfold rowLen
     rw [Z3, Z3, setH_eq]
     by_cases hj : j = id
     ·subst hj
      rw [List.getElem?_set_self hid, ← Z3, hob]
     ·rw [List.getElem?_set_ne (by omega)]
    refine opT.of (fun K' hK' => Zbg ho h1 h2 (by rw [TSt.ev_ok, hx]; rfl) (by rw [TSt.ev_ok, Z2x hq]) hv hob' hd hK') (Zex (fun j => (hrow j).symm) (by rw [Zgr]; exact ObjLe.refl _)) (.refl _) hK
   ·trivial
  ·trivial
 ·trivial
theorem wrap_ok (hT : Zh P C.T) (hd : dOK X.n o.dst) {op : BinOp} {t t' : Nat} {y z : Operand} (ho : o.op = .binOp op t y z t') {x : SV} (hx : wrapT C op (s.ev y) (s.ev z) = some x) : Tell2 P X o s (.ok s x) := by
 unfold wrapT at hx
 split at hx
 ·rename_i a b _ hy hz
  have fin : ∀ {r : Int} {x : SV}, x = .val (.int .i64) (IntKind.wrap .i64 r) → Zdb op .i64 a b = some (Zcf .i64 r) → op ≠ .shl → op ≠ .shr → Tell2 P X o s (.ok s x) := by
   intro r x he hev h1 h2
   subst he
   have e : Z6q op (.int .i64 a) (.int .i64 b) = Zdb op .i64 a b := by
    cases op <;> first | exact absurd rfl h1 | exact absurd rfl h2 | simp [Z6q]
   have h3 : Zc C.T s.toSt o.op = some (True, .v (.int .i64 (IntKind.wrap .i64 r))) := by
    rw [ho]
    simp only [Zc, TSt.ev_ok, Z17 hy, Z17 hz, e, hev]
    rfl
   exact Zbj hT hd (r := .ok (.val (.int .i64) (IntKind.wrap .i64 r))) ⟨_, _, h3, trivial, .refl _⟩
  split at hx
  ·cases hx; exact fin rfl rfl (fun h => by cases h) (fun h => by cases h)
  ·cases hx; exact fin rfl rfl (fun h => by cases h) (fun h => by cases h)
  ·cases hx; exact fin rfl rfl (fun h => by cases h) (fun h => by cases h)
  ·cases hx
 ·cases hx
theorem vals_ok : ∀ (t : Ty), t.plain = true → ∀ x : t.den, t.cells x = (t.vals x).map .v ∧ (t.vals x).length = t.size
 | .int _, _, _ => ⟨rfl, rfl⟩
 | .byte, _, _ => ⟨rfl, rfl⟩
 | .bool, _, _ => ⟨rfl, rfl⟩
 | .str, _, _ => ⟨rfl, rfl⟩
 | .one t, h, x => vals_ok t h x
 | .pair a b, h, x => by
  simp only [Ty.plain, Bool.and_eq_true] at h
  obtain ⟨h1, h2⟩ := vals_ok a h.1 x.1
  obtain ⟨h3, h4⟩ := vals_ok b h.2 x.2
  refine ⟨?_, ?_⟩
  ·show a.cells x.1 ++ b.cells x.2 = (a.vals x.1 ++ b.vals x.2).map .v
   rw [h1, h3, List.map_append]
  ·show (a.vals x.1 ++ b.vals x.2).length = a.size + b.size
   rw [List.length_append, h2, h4]
 | .slice _, h, _ => by cases h
 | .ptr _, h, _ => by cases h
 | .nilS, h, _ => by cases h
 | .nilI, h, _ => by cases h
 | .adr, h, _ => by cases h
 | .mp _, h, _ => by cases h
 | .mq _, h, _ => by cases h
 | .fnc _, h, _ => by cases h
 | .clo _ _, h, _ => by cases h
 | .ref _, h, _ => by cases h
theorem Z98 {t : Ty} (h : t.plain = true) (xs : List t.den) : rowV (xs.map t.vals) = xs.map t.cells := by
 unfold rowV
 rw [List.map_map]
 exact List.map_congr_left fun x _ => ((vals_ok t h x).1).symm
theorem Zb2 (hC : CxOK P C) (hm : X.m = C.m) (hd : dOK X.n o.dst) {fop y : Operand} {zs : List Operand} {ar : Array Operand} {ts : Array Nat} (ho : o.op = .call { callee := .value fop, args := ar, argTypes := ts }) {f g id sz : Nat} {sf : SFn} (hf : s.ev fop = .fn f []) (har : ar.toList = y :: zs) (hy : s.ev y = .own id sz) (hz : (g = 1000000 ∧ zs = []) ∨ (g ≠ 1000000 ∧ ∃ z, zs = [z] ∧ s.toSt.ev z = .fn g [])) (hso : C.SO f g = some sf) : Tell2 P X o s (Ziu C s o.dst id sz sf) := by
 obtain ⟨hE, hpl, hpair⟩ := hC.so f g _ hso
 unfold Ziu
 split
 ·rename_i e u xs0 hq
  split
  ·rename_i xs hxs
   obtain ⟨e1, h9⟩ := Za hxs
   injection e1 with e1
   subst e1
   obtain rfl : xs0 = xs := h9
   split
   ·rename_i hsz
    subst hsz
    have common : ∀ ys, sf.run xs0 = some ys → Z96 P f g sf xs0 ys → (ys.length = List.length xs0 ∧ ∀ j, rowLen s.heap j = rowLen (setH s.heap id (.row e sf.t ys)) j) := fun ys hys hp0 => by
     have hlen : ys.length = List.length xs0 := by
      unfold Z96 at hp0
      split at hp0
      ·have := hp0.len; simpa using this
      ·have := hp0.2.len; simpa using this
     refine ⟨hlen, fun j => ?_⟩
     by_cases hj : j = id
     ·subst hj
      have hid : j < s.heap.length := by rw [Z3] at hq; exact (List.getElem?_eq_some_iff.1 hq).1
      rw [Z4 hq, Z4 (e := e) (t := sf.t) (xs := ys) (by rw [Z3, setH_eq, List.getElem?_set_self hid])]
      exact hlen.symm
     ·unfold rowLen
      rw [Z3, Z3, setH_eq, List.getElem?_set_ne (by omega)]
    have hq' : s.toSt.heap[id]? = some (.row e sf.t.size (rowV (xs0.map sf.t.vals))) := by rw [TSt.heap_get, hq, Z98 hpl]; rfl
    have hid : id < s.heap.length := by rw [Z3] at hq; exact (List.getElem?_eq_some_iff.1 hq).1
    split
    ·rename_i hcut
     refine ⟨.of _ _ rfl, fun hc K hK => ?_⟩
     obtain ⟨ys, hys⟩ := Option.isSome_iff_exists.1 hc
     rw [hys, Option.getD_some] at hK
     have hp0 := hpair _ ys hys
     obtain ⟨hlen, hrow⟩ := common ys hys hp0
     unfold Z96 at hp0
     rw [hcut] at hp0
     have hp : SortPair P f g sf.t.size (List.map sf.t.vals xs0) (ys.map sf.t.vals) := hp0
     refine opT.of (fun K' hK' => op_sort ho har (by rw [TSt.ev_ok, hf]; rfl) hE hp (fun c hc => ?_) (by rw [TSt.ev_ok, hy]; simp only [SV.toAV]; rw [Z4 hq, List.length_map]) hz hq' hd hK') (Zex (ob := .row e sf.t ys) hrow (by rw [Z98 hpl]; exact ObjLe.refl _)) (.refl _) hK
     obtain ⟨x, _, rfl⟩ := List.mem_map.1 hc
     exact (vals_ok sf.t hpl x).2
    ·rename_i c d hcut hdst
     by_cases hmi : C.m ≤ id
     case neg => rw [if_neg hmi]; trivial
     rw [if_pos hmi]
     refine ⟨PureSame.trans (PureSame.of s ⟨s.env, setH s.heap id (.row e sf.t (Option.getD (sf.run xs0) []))⟩ rfl) (PureSame.subAll ⟨s.env, setH s.heap id (.row e sf.t (Option.getD (sf.run xs0) []))⟩ (Zk id) id (.row e sf.t (List.take (c xs0) (Option.getD (sf.run xs0) [])))), fun hc K hK => ?_⟩
     obtain ⟨ys, hys⟩ := Option.isSome_iff_exists.1 hc
     rw [hys, Option.getD_some] at hK
     have hp0 := hpair _ ys hys
     obtain ⟨hlen, hrow⟩ := common ys hys hp0
     unfold Z96 at hp0
     rw [hcut] at hp0
     obtain ⟨rfl, hp⟩ := hp0
     have hz0 : zs = [] := by
      rcases hz with ⟨_, h⟩ | ⟨h, _⟩
      ·exact h
      ·exact absurd rfl h
     subst hz0
     have hle : c xs0 ≤ ys.length := by have := hp.le; rw [hlen]; simpa using this
     refine op_cut ho har (by rw [TSt.ev_ok, hf]; rfl) hE hp (fun c hc => ?_) (by rw [TSt.ev_ok, hy]; simp only [SV.toAV]; rw [Z4 hq, List.length_map]) hq' hd ⟨_, ?_, hK⟩
     ·obtain ⟨x, _, rfl⟩ := List.mem_map.1 hc
      exact (vals_ok sf.t hpl x).2
     ·rw [hdst]
      let s1 : TSt := ⟨s.env, setH s.heap id (.row e sf.t ys)⟩
      have hle1 : StLe ⟨s.toSt.env, s.toSt.heap.set id (.row e sf.t.size (rowV (ys.map sf.t.vals)))⟩ s1.toSt := Zex (ob := .row e sf.t ys) hrow (by rw [Z98 hpl]; exact ObjLe.refl _)
      refine Imp.trans (StLe.put hle1 (.refl _) (some d)).imp (fun a w hr => ?_)
      have hq1 : (St.put s1.toSt (some d) (.own id sf.t.size 0 (c xs0))).heap[id]? = some (.row e sf.t.size (List.map sf.t.cells ys)) := by
       show s1.toSt.heap[id]? = _
       rw [TSt.heap_get]
       show (nth (setH s.heap id (.row e sf.t ys)) id).map _ = _
       rw [Z3, setH_eq, List.getElem?_set_self hid]
       rfl
      have h4 := Rep.takeRow hr (i := d) (len := c xs0) (by simp [St.put, envGet]) hq1 (by rw [List.length_map]; exact hle) (by omega)
      refine h4.weak ?_
      rw [TSt.put_ok]
      have h5 := Zw (s := s1) (f := Z5 id) (g := Zk id) (id := id) (ob := .row e sf.t (List.take (c xs0) ys)) (oa := .row e sf.t.size ((List.map sf.t.cells ys).take (c xs0))) Z1i (by
       have e2 : (List.map sf.t.cells ys).take (c xs0) = (List.take (c xs0) ys).map sf.t.cells := (List.map_take ..).symm
       rw [e2]; exact ObjLe.refl _)
      have h6 := StLe.put (s := ⟨Zo (Z5 id) s1.toSt.env, (s1.toSt.heap.map (AObj.sub (Z5 id))).set id (.row e sf.t.size ((List.map sf.t.cells ys).take (c xs0)))⟩) h5 (x := .own id sf.t.size 0 (c xs0)) (y := (SV.own id sf.t.size).toAV (TSt.subAll s1 (Zk id) id (.row e sf.t (List.take (c xs0) ys))).heap) (by
       simp only [SV.toAV]
       rw [Z4 (e := e) (t := sf.t) (xs := List.take (c xs0) ys) (by rw [Z3]; simp [TSt.subAll, setH_eq, s1, hid])]
       have e4 : (List.take (c xs0) ys).length = min (c xs0) ys.length := List.length_take ..
       rw [e4, Nat.min_eq_left hle]
       exact .refl _) (some d)
      refine ⟨fun i => ?_, h6.2.1, h6.2.2⟩
      have h7 := h6.1 i
      simp only [St.put, envGet] at h7 ⊢
      by_cases hi : i = d
      ·subst hi; simpa using h7
      ·rw [if_neg hi] at h7 ⊢
       simp only [Zo, List.map_cons, envGet]
       rw [if_neg hi]
       exact h7
    ·trivial
   ·trivial
  ·trivial
 ·trivial
theorem sort_ok (hC : CxOK P C) (hm : X.m = C.m) (hd : dOK X.n o.dst) {fop : Operand} {ar : Array Operand} {ts : Array Nat} (ho : o.op = .call { callee := .value fop, args := ar, argTypes := ts }) {id sz : Nat} {sf : SFn} (hx : Z9c C s fop ar.toList = some (id, sz, sf)) : Tell2 P X o s (Ziu C s o.dst id sz sf) := by
 unfold Z9c at hx
 split at hx
 ·rename_i f y z hf har
  split at hx
  ·rename_i id' sz' g hy hz
   split at hx
   ·rename_i sf' hso hg
    cases hx
    exact Zb2 hC hm hd ho hf har hy (.inr ⟨of_decide_eq_false hg, z, rfl, by rw [TSt.ev_ok, hz]; rfl⟩) hso
   ·cases hx
  ·cases hx
 ·rename_i f y hf har
  split at hx
  ·rename_i id' sz' hy
   split at hx
   ·rename_i sf' hso
    cases hx
    exact Zb2 hC hm hd ho hf har hy (.inl ⟨rfl, rfl⟩) hso
   ·cases hx
  ·cases hx
 ·cases hx
theorem Z45 (hT : Zh P C.T) (hd : dOK X.n o.dst) {t t' : Nat} {x : Operand} (ho : o.op = .convert t t' x) {y : SV} (hy : Z4g C t t' (s.ev x) = some y) : Z5v P X o s (.ok s y) := by
 unfold Z4g at hy
 split at hy
 ·rename_i e b ht ht' hb
  split at hy
  ·rename_i he
   cases hy
   refine ⟨.refl _, fun K hK => opTG.of (s1 := s) (so := s.toSt) (fun K' hK' => Z9l hT ho ht ht' he (by rw [TSt.ev_ok, Z2x hb]) hd hK') (.refl _) (.refl _) hK⟩
  ·cases hy
 ·cases hy
theorem Zbu {m : List (Nat × Nat)} : ∀ (n k : Nat) (l : List Nat), Zji m k n = some l → l.length = n
 | 0, k, l, h => by cases h; rfl
 | n + 1, k, l, h => by
  unfold Zji at h
  split at h
  ·rename_i id l' h1 h2
   cases h
   simp [Zbu n (k + 1) l' h2]
  ·cases h
theorem Z8o {h : List TObj} {sh : Shape} {xs : List SV} {m : List (Nat × Nat)} {keep : List Nat} (hk : Z9u h sh xs m = some keep) : keep.length = sh.objs.length ∧ keep.Nodup := by
 unfold Z9u at hk
 split at hk
 ·rename_i l hl
  split at hk
  ·rename_i hd
   cases hk
   exact ⟨Zbu _ _ _ hl, noDup_ok hd⟩
  ·cases hk
 ·cases hk
theorem Zam {n : Nat} : ∀ {l : List Nat}, Zif n l = true → ∀ i ∈ l, i < n
 | x :: r, h, i, hi => by
  simp only [Zif, Bool.and_eq_true, decide_eq_true_eq] at h
  rcases List.mem_cons.1 hi with rfl | hi
  ·exact h.1
  ·exact Zam h.2 i hi
theorem Zim {fop : Operand} {args : List Operand} {g : Nat} {f : TFw} (h : Zin C s fop args = some (g, f)) : ∃ caps ks, fnV (s.ev fop) = .fn g caps ∧ C.BW g ks = some f := by
 unfold Zin at h
 split at h
 ·rename_i g' caps hf
  split at h
  ·rename_i f' hb; cases h; exact ⟨caps, _, hf, hb⟩
  ·cases h
 ·cases h
theorem Zjy (hC : CxOK P C) (hd : dOK X.n o.dst) {fop : Operand} {ar : Array Operand} {ts : Array Nat} (ho : o.op = .call { callee := .value fop, args := ar, argTypes := ts }) {g : Nat} {f : TFw} (hg : Zin C s fop ar.toList = some (g, f)) : Tell2 P X o s (callW C s fop ar.toList g f) := by
 obtain ⟨_, ks, _, hb⟩ := Zim hg
 obtain ⟨hE, hkeys, hspec⟩ := hC.w g ks f hb
 unfold callW
 split
 ·rename_i g0 caps hf
  split
  ·rename_i keep hkeep
   obtain ⟨hkl, hnd⟩ := Z8o hkeep
   generalize hs1 : freezeAllT C.TY s (Zbl keep (Z9x s.heap (SV.ids0L (ar.toList.map s.ev ++ caps) ++ keep))) = s1
   have hfrz := Z13 (X := X) C.TY (Zbl keep (Z9x s.heap (SV.ids0L (ar.toList.map s.ev ++ caps) ++ keep))) s
   rw [hs1] at hfrz
   simp only
   split
   ·rename_i g' caps' hf' hlt
    have hin := Zam hlt
    split
    ·rename_i x hx
     split
     ·rename_i hcc
      obtain ⟨rfl, hxl⟩ := hcc
      refine ⟨hfrz.2, fun y hy hl K hK => opT.from hfrz.1 (opWP.wf fun hw => ?_)⟩
      have hsl : s1.toSt.heap.length = s1.heap.length := by simp [TSt.toSt]
      have hsays := Zei (H := s1.heap) (show decO f.ins ⟨Z5l 0 ((ar.toList.map s1.ev ++ caps').map (SV.sub (renS keep))), Z28 keep s1.heap⟩ = some x from hx) hkl (fun j hj => by rw [hkeys, List.mem_range, ← hxl]; exact hj) hnd hin
      rw [hxl] at hsays
      have hargs : (ar.toList.map s1.ev ++ caps').map (SV.toAV s1.heap) = ar.toList.map s1.toSt.ev ++ SV.toAVL s1.heap caps' := by
       rw [List.map_append, Zec, SV.toAVL_eq]
      rw [hargs] at hsays
      refine Zj8 ho (f := g') (caps := SV.toAVL s1.heap caps') (by rw [TSt.ev_ok, ← Ze8, hf']; rfl) hE keep hnd (fun i hi => by rw [hsl]; exact hin i hi) hsays (hspec x y hy) hd (fun ret h' hp hlen => ?_)
      obtain ⟨rfl, rfl⟩ := hp
      have hol : keep.length ≤ (encS f.outs y []).heap.length := by simpa [TSt.toSt] using hlen
      have hd1 : ∀ {x : TObj}, x.toObj (encS f.outs y []).heap = .dead → x = .dead := fun {x} e => by
       cases x <;> simp [TObj.toObj] at e
       rfl
      refine ⟨deadL (encS f.outs y []).heap 0 keep, fun i hi => ?_, fun k i hki hni => ?_, fun k i hki hi => ?_, ⟨_, ?_, hK⟩⟩
      ·obtain ⟨j, h1, _⟩ := mem_deadL keep 0 i hi
       exact List.mem_of_getElem? h1
      ·obtain ⟨o1, h1, h2⟩ := lens_ok keep 0 k i hl hki
       simp only [TSt.toSt, List.getElem?_map]
       rw [Nat.zero_add] at h1
       rw [h1, Option.map_some]
       intro e
       cases hd1 (Option.some.inj e)
       exact hni (deadL_mem keep 0 k i hki (by rw [Nat.zero_add]; exact h1))
      ·obtain ⟨j, h1, h2⟩ := mem_deadL keep 0 i hi
       have e := (idx_of hnd hki).symm.trans (idx_of hnd h1)
       cases e
       rw [Nat.zero_add] at h2
       simp only [TSt.toSt, List.getElem?_map, h2, Option.map_some]
       rfl
      ·rw [TSt.put_ok]
       refine (StLe.put (back_le hw hl hnd hin hol) ?_ _).imp
       rw [hsl]
       exact Z8f (Zdq hl hnd hin) _
     ·trivial
    ·trivial
   ·trivial
  ·trivial
 ·trivial
theorem tr_ok (hC : CxOK P C) (hm : X.m = C.m) (hd : dOK X.n o.dst) {fop : Operand} {ar : Array Operand} {ts : Array Nat} (ho : o.op = .call { callee := .value fop, args := ar, argTypes := ts }) {f : Nat} {b : Bool} {e : Nat} {y i z : Operand} (hx : Zfw C s fop ar.toList = some (f, b, e, y, i, z)) :
  Tell2 P X o s (match b with | true => insT C s e (s.ev y) (s.ev i) (s.ev z) | false => delT C s fop f e y i z) := by
 unfold Zfw at hx
 split at hx
 ·rename_i f' y' i' z' hf har
  split at hx
  ·rename_i b' e' htr
   cases hx
   have ha : ar = #[y, i, z] := by rw [← Array.toArray_toList (xs := ar), har]
   subst ha
   obtain ⟨ti, hT, hE, h⟩ := hC.tr _ _ _ htr
   cases b with
   | true => exact Zha hd hm ho hT hf hE h
   | false => exact Zhz hd hm ho hT hf hE h
  ·cases hx
 ·cases hx
theorem Zhs (hC : CxOK P C) (hm : X.m = C.m) (hd : dOK X.n o.dst) : Tell2 P X o s (exT2 C s o) := by
 have hT := hC.T
 unfold exT2
 split
 ·rename_i e ho; exact .ofC (Zal hT hd ho)
 ·rename_i e y ho; exact .ofC (Zi7 hT hd ho)
 ·rename_i t parts ho; exact .ofC (Zaf hT hd ho)
 ·rename_i t len parts ho; exact .ofC (Z3s hT hd ho)
 ·rename_i t y z ho; exact .ofC (Z41 hT hd ho)
 ·rename_i t y z ho
  split
  ·rename_i hy; exact Zcw hT hm hd ho hy
  ·refine Zit hT hd (fun h => ?_) ho
   rw [Bool.and_eq_true] at h
   exact Option.isNone_iff_eq_none.1 h.2
 ·rename_i t ho; exact .ofC (Z61 hC hd ho)
 ·rename_i t x k b ho; exact .ofC (Z7h hC hd ho)
 ·rename_i t x k v ho; exact Zbq hC hm hd ho
 ·rename_i t x ho; exact .ofC (Ziz hC hd ho)
 ·rename_i cnd p q ho
  split
  ·rename_i b hb
   intro K h1 h2
   refine op_pick ho (by rw [TSt.ev_ok, Z3b hb]) hd (fun e => ⟨_, ?_, h1 e⟩) (fun e => ⟨_, ?_, h2 e⟩)
   ·rw [TSt.put_ok, TSt.ev_ok]; exact .refl _ _
   ·rw [TSt.put_ok, TSt.ev_ok]; exact .refl _ _
  ·trivial
 ·rename_i args ts ho
  split
  ·rename_i y z t t' ha ht
   have ha' : args = #[y, z] := by rw [← Array.toArray_toList (xs := args), ha]
   have ht' : ts = #[t, t'] := by rw [← Array.toArray_toList (xs := ts), ht]
   subst ha' ht'
   split
   ·rename_i hy; exact Zdj hT hm hd ho hy
   ·exact Zcg hT hm hd ho
  ·trivial
 ·rename_i fop args ts ho
  split
  ·rename_i hx; exact sort_ok hC hm hd ho hx
  ·split
   ·rename_i hx; exact tr_ok hC hm hd ho hx
   ·rename_i hx; exact tr_ok hC hm hd ho hx
   ·split
    ·rename_i hg; exact Zjy hC hd ho hg
    ·exact .ofC (Zdi hC hd ho)
 ·rename_i args ts ho
  split
  ·rename_i x t ha ht
   unfold capT
   split
   ·rename_i hti hx
    refine ⟨.refl _, fun K hK => (opTG.of (s1 := s) (so := s.toSt) (fun K' hK' => Zgl ho ha ht (hT _ _ hti).kind (by rw [TSt.ev_ok, hx]; rfl) hd hK') (.refl _) (.refl _) hK).wp⟩
   ·trivial
  ·trivial
 ·rename_i t x lo hi ho
  split
  ·rename_i hx
   have hx' : s.toSt.ev x = .v (.slice none 0 0) := by
    unfold isNilS at hx
    split at hx
    ·rename_i hx2; rw [TSt.ev_ok, hx2]; rfl
    ·cases hx
   unfold Zb3
   split
   ·rename_i l h _ _ _ _ hl hh hti
    split
    ·rename_i ti he
     have hb := Zi8 hl hh 0
     have key : (bnd2 l h 0).1 → ∀ K : TSt → Prop, K (s.put o.dst (.cst (.slice none 0 0))) → opT P X o K s := fun hc K hK => (opTG.of (s1 := s) (so := s.toSt) (fun K' hK' => Zd1 hT ho hx' hti he hb hc hd hK') (.refl _) (.refl _) hK).wp
     split
     ·exact ⟨.refl _, key trivial⟩
     ·exact ⟨.refl _, fun hc => key hc⟩
     ·exact ⟨.refl _, fun hc => key hc⟩
     ·exact ⟨.refl _, fun hc => key hc⟩
    ·trivial
   ·trivial
  ·exact Zbj hT hd (by rw [ho]; exact Z6a)
 ·rename_i t t' x ho
  split
  ·rename_i hx hdt
   have hdt' := of_decide_eq_true hdt
   subst hdt'
   exact Zde hT hm hd ho hx
  ·split
   ·rename_i y hy; exact .ofC (Z45 hT hd ho hy)
   ·exact Zbj hT hd (by rw [ho]; exact Z6a)
 ·rename_i op t y z t' ho
  split
  ·rename_i r hr; exact nil_ok hT hd ho hr
  ·split
   ·rename_i r hr; exact eqs_ok hC hd ho hr
   ·split
    ·rename_i x hx; exact wrap_ok hT hd ho hx
    ·split
     ·rename_i x hx; exact ifc_ok hC hd ho hx
     ·exact Zbj hT hd (by rw [ho]; exact Z6a)
 ·exact Zbj hT hd Z6a
end
end Go.Proofs.YtnehieeplbgaiacDoor.Eng
set_option linter.unusedVariables false
set_option linter.unusedSimpArgs false
namespace Go.Proofs.YtnehieeplbgaiacDoor.Eng
open Go Go.RowKit
noncomputable def ck {β : Type} (c : Prop) (a : Option β) : Option β := @ite _ c (Classical.propDecidable c) a none
def cb {β : Type} (b : Bool) (x y : Option β) : Option β := match b with
 | true => x
 | false => y
noncomputable def nq {β : Type} (c : Prop) (a b : Option β) : Option β := @ite _ c (Classical.propDecidable c) a (@ite _ (a = b) (Classical.propDecidable _) a none)
def ob {α β : Type} (r : Option α) (k : α → Option β) : Option β := match r with
 | some a => k a
 | none => none
def Zae {α γ β : Type} (a : α ⊕ γ) (f : α → Option β) (g : γ → Option β) : Option β := match a with
 | .inl x => f x
 | .inr y => g y
theorem Z3r {β : Type} {c : Prop} {a : Option β} {r : β} (h : ck c a = some r) : c ∧ a = some r := by
 unfold ck at h
 by_cases hc : c
 ·rw [if_pos hc] at h; exact ⟨hc, h⟩
 ·rw [if_neg hc] at h; cases h
theorem Z1 {β : Type} {c : Prop} {a : Option β} (h : c) : ck c a = a := by unfold ck; rw [if_pos h]
theorem nq_some {β : Type} {c : Prop} {a b : Option β} {r : β} (h : nq c a b = some r) : a = some r ∧ (¬ c → b = some r) := by
 unfold nq at h
 by_cases hc : c
 ·rw [if_pos hc] at h; exact ⟨h, fun h' => absurd hc h'⟩
 ·rw [if_neg hc] at h
  by_cases he : a = b
  ·rw [if_pos he] at h; exact ⟨h, fun _ => he ▸ h⟩
  ·rw [if_neg he] at h; cases h
theorem nq_same {β : Type} {c : Prop} {a : Option β} : nq c a a = a := by
 unfold nq
 by_cases hc : c
 ·rw [if_pos hc]
 ·rw [if_neg hc, if_pos rfl]
theorem Z5z {α β : Type} {r : Option α} {k : α → Option β} {x : β} (h : ob r k = some x) : ∃ a, r = some a ∧ k a = some x := by
 cases r with
 | none => cases h
 | some a => exact ⟨a, rfl, h⟩
def Z4i {X R : Type} (f : X → Option (X ⊕ R)) : Nat → X → Option R
 | 0, _ => none
 | n + 1, x => match f x with
  | none => none
  | some (.inl x') => Z4i f n x'
  | some (.inr r) => some r
noncomputable def Z1c {X R : Type} (f : X → Option (X ⊕ R)) (x : X) : Option R := by
 classical exact if h : ∃ n r, Z4i f n x = some r then some (Classical.choose (Classical.choose_spec h)) else none
theorem Z62 {X R : Type} {f : X → Option (X ⊕ R)} {r : R} : ∀ {n m : Nat} {x : X}, Z4i f n x = some r → n ≤ m → Z4i f m x = some r
 | 0, _, _, h, _ => by cases h
 | n + 1, 0, _, _, h => by omega
 | n + 1, m + 1, x, h, hle => by
  simp only [Z4i] at h ⊢
  cases hf : f x with
  | none => rw [hf] at h; cases h
  | some y =>
   rw [hf] at h
   cases y with
   | inl x' => exact Z62 (n := n) (m := m) (by simpa using h) (by omega)
   | inr r' => simpa using h
theorem Z4c {X R : Type} {f : X → Option (X ⊕ R)} {x : X} {r : R} (h : Z1c f x = some r) : ∃ n, Z4i f n x = some r := by
 unfold Z1c at h
 split at h
 ·rename_i hex
  cases h
  exact ⟨_, Classical.choose_spec (Classical.choose_spec hex)⟩
 ·cases h
theorem Z9q {X R : Type} {f : X → Option (X ⊕ R)} {x : X} {r : R} {n : Nat} (h : Z4i f n x = some r) : Z1c f x = some r := by
 have hex : ∃ n r, Z4i f n x = some r := ⟨n, r, h⟩
 unfold Z1c
 rw [dif_pos hex]
 have h2 := Classical.choose_spec (Classical.choose_spec hex)
 have h3 := Z62 h2 (Nat.le_max_left _ n)
 have h4 := Z62 h (Nat.le_max_right (Classical.choose hex) n)
 rw [h3] at h4
 exact h4
theorem Z8n {X R : Type} {f : X → Option (X ⊕ R)} {x : X} : Z1c f x = match f x with
  | none => none
  | some (.inl x') => Z1c f x'
  | some (.inr r) => some r := by
 cases hf : f x with
 | none =>
  cases h : Z1c f x with
  | none => rfl
  | some r =>
   obtain ⟨n, hn⟩ := Z4c h
   cases n with
   | zero => cases hn
   | succ n => simp [Z4i, hf] at hn
 | some y =>
  cases y with
  | inr r => exact Z9q (n := 1) (by simp [Z4i, hf])
  | inl x' =>
   show Z1c f x = Z1c f x'
   cases h : Z1c f x' with
   | none =>
    cases h2 : Z1c f x with
    | none => rfl
    | some r =>
     obtain ⟨n, hn⟩ := Z4c h2
     cases n with
     | zero => cases hn
     | succ n =>
      simp only [Z4i, hf] at hn
      rw [Z9q hn] at h
      cases h
   | some r =>
    obtain ⟨n, hn⟩ := Z4c h
    exact Z9q (n := n + 1) (by simp only [Z4i, hf]; exact hn)
end Go.Proofs.YtnehieeplbgaiacDoor.Eng
set_option linter.unusedVariables false
set_option linter.unusedSimpArgs false
namespace Go.Proofs.YtnehieeplbgaiacDoor.Eng
open Go Go.RowKit
inductive PA where
 | nil (d : Nat) (e : TypeId) (t : Ty)
 | frz (d : Nat)
 | nilB (b j : Nat) (e : TypeId) (t : Ty)
 | lipB (b j : Nat) (ei : TypeId)
def PA.slot : PA → Option Nat
 | .nil d _ _ => some d
 | .frz _ => none
 | .nilB _ _ _ _ => none
 | .lipB _ _ _ => none
def lipS (s : TSt) (b j id : Nat) (e ei eb : TypeId) (t : Ty) (xs : List t.den) (cs : List SV) : TSt :=
 ⟨(s.subAll (Zk id) id (.lin e ei t (some 0) none xs)).env, setH (s.subAll (Zk id) id (.lin e ei t (some 0) none xs)).heap b (.box eb ((SV.subL (Zk id) cs).set j (.nm id [0])))⟩
def preF (TY : Nat → Option Ty) (m : Nat) : List PA → TSt → Option TSt
 | [], s => some s
 | .nil d e t :: r, s => (match tget s.env d with
  | .cst (.slice none 0 0) => preF TY m r ((s.push (.row e t [])).put (some d) (.own s.heap.length t.size))
  | _ => none)
 | .frz d :: r, s => preF TY m r (frzFor TY s [tget s.env d])
 | .nilB b j e t :: r, s => (match nth s.heap b with
  | some (.box eb cs) => (match nth cs j with
   | some (.cst (.slice none 0 0)) => preF TY m r ⟨s.env, setH (s.heap ++ [.row e t []]) b (.box eb (cs.set j (.own s.heap.length t.size)))⟩
   | _ => none)
  | _ => none)
 | .lipB b j ei :: r, s => (match nth s.heap b with
  | some (.box eb cs) => (match nth cs j with
   | some (.own id sz) => (match nth s.heap id with
    | some (.row e t xs) => (match decide (sz = t.size) && Nat.ble m id with
     | true => preF TY m r (lipS s b j id e ei eb t xs cs)
     | false => none)
    | _ => none)
   | _ => none)
  | _ => none)
noncomputable def renF {β : Type} (m : Nat) : List (Nat × SK) → TSt → (TSt → Option β) → Option β
 | [], s, k => k s
 | (i, .que _ _) :: r, s, k => (match tget s.env i with
  | .cut id sz off len => (match nth s.heap id with
   | some (.row e t xs) => (match decide (sz = t.size) && Nat.ble m id with
    | true => ck (off + len = List.length xs) (renF m r ((s.subAll (Zk id) id (.row e t (List.drop off xs))).put (some i) (.own id sz)) k)
    | false => none)
   | _ => none)
  | _ => renF m r s k)
 | (i, .val _) :: r, s, k => renF m r (frzFor (fun _ => none) s [tget s.env i]) k
 | (_, .rp _) :: r, s, k => renF m r s k
 | (_, .own _ _) :: r, s, k => renF m r s k
 | (_, .ptr _ _) :: r, s, k => renF m r s k
 | (_, .nm _ _) :: r, s, k => renF m r s k
 | (_, .fn _) :: r, s, k => renF m r s k
 | (_, .nil) :: r, s, k => renF m r s k
 | (_, .inn _) :: r, s, k => renF m r s k
 | (_, .agg _) :: r, s, k => renF m r s k
 | (_, .clo _ _) :: r, s, k => renF m r s k
section
variable {P : Program} {X : Ctx} {σ : Nat → Option Blk} {F : Nat → Prop} {a : Act} {w : World}
theorem Rep.dropRow {s : St} (hr : Rep X s a w) {i id e sz off len : Nat} {es : List (List AV)} (hi : envGet s.env i = .own id sz off len) (hq : s.heap[id]? = some (.row e sz es)) (hf : off + len = es.length) (hm : X.m ≤ id) :
  Rep X ⟨(i, .own id sz 0 len) :: Zo (Z5 id) s.env, (s.heap.map (AObj.sub (Z5 id))).set id (.row e sz (es.drop off))⟩ a w := by
 obtain ⟨σ, F, hr⟩ := hr
 have hid : id < s.heap.length := (List.getElem?_eq_some_iff.1 hq).1
 have hob := hr.heap.obj id _ hq
 have hv := hi ▸ hr.env i
 have hRF : ∀ x y, RepF F w x y → RepF F w x y := fun x y h => h
 have fin : ∀ (k : Option Blk), (∀ q g, k = some q → q.has g → g < w.heap.size ∧ ¬ F g ∧ (hasB σ id g ∨ w.heap.size ≤ g)) → RepO (upd σ id k) F w id (.row e sz (es.drop off)) → RepV (upd σ id k) F w (.own id sz 0 len) (a.tmps.getD i undef) →
   Rep X ⟨(i, .own id sz 0 len) :: Zo (Z5 id) s.env, (s.heap.map (AObj.sub (Z5 id))).set id (.row e sz (es.drop off))⟩ a w := by
  intro k hk hO hV
  have h1 := hr.change (w' := w) (F' := F) (f := Z5 id) hid (k := k) rfl rfl rfl (Nat.le_refl _) (fun _ _ _ => rfl) (fun _ h => h) (fun _ h => .inl h) hk (Z3m hRF) (Z3l hRF) Z1y (fun h => absurd h (Nat.not_lt.2 hm)) hO
  refine ⟨_, F, h1.defers, h1.size, fun j => ?_, h1.heap, h1.keep, h1.own, h1.fnew, h1.stab, h1.hm⟩
  simp only [envGet]
  split
  ·rename_i e; subst e; exact hV
  ·exact h1.env j
 rcases RepV.ownv hv with ⟨h1, rfl, rfl, h2⟩ | ⟨g, b, c, n, h1, hn, hc, h2⟩
 ·refine fin (some .nil) (fun q g h hg => by cases h; exact hg.elim) (.inl ⟨Z0 _ _ _, ?_⟩) ?_
  ·exact List.eq_nil_of_length_eq_zero (by rw [List.length_drop]; omega)
  ·rw [h2]; exact .own0 _ _ (Z0 _ _ _)
 ·rcases hob with ⟨h3, _⟩ | ⟨g', b', c', cur, h3, h4, h5, h6, h7, h8, h9⟩
  ·rw [h1] at h3; cases h3
  ·rw [h1] at h3
   injection h3 with h3
   injection h3 with e1 e2 e3 e4
   subst e1 e2 e3
   have hlt := hr.heap.lt _ _ (.at h1)
   refine fin (some (.at_ g (b + off) (c - off) (n - off))) (fun q1 g1 h hg1 => ?_) (.inr ⟨g, b + off, c - off, cur, ?_, ?_, by omega, h6, ?_, fun cs hcs => h8 cs (List.mem_of_mem_drop hcs), fun j cs q x hj hx => ?_⟩) ?_
   ·cases h
    have e1 : g1 = g := hg1
    subst e1
    exact ⟨hlt.1, hlt.2, .inl (.at h1)⟩
   ·rw [Z0]; simp; omega
   ·simp; omega
   ·rw [h7]; congr 1; omega
   ·rw [List.getElem?_drop] at hj
    obtain ⟨u, h10, h11, h12⟩ := h9 (off + j) cs q x hj hx
    exact ⟨u, by rw [← h10, Nat.add_assoc], h11, h12⟩
   ·rcases h2 with h2 | ⟨h2, h3, h10, A, h11⟩
    ·rw [h2]
     have := RepV.own (σ := upd σ id (some (.at_ g (b + off) (c - off) (n - off)))) (F := F) (w := w) id sz 0 len g (b + off) (c - off) (n - off) (Z0 _ _ _) (by omega) (by omega)
     simpa using this
    ·subst h2
     rw [h11]
     exact .ownz _ _ _ g (b + off) (c - off) (n - off) A (Z0 _ _ _) (by omega) (by omega)
def WFr (W : List Nat) (s s' : TSt) : Prop := ∀ i, i ∉ W → (tget s.env i = .any → tget s'.env i = .any) ∧ (∀ t x, tget s.env i = .val t x → tget s'.env i = .any ∨ tget s'.env i = .val t x) ∧ (∀ t x, tget s.env i = .rp t x → tget s'.env i = .any ∨ tget s'.env i = .rp t x) ∧ (∀ g, tget s.env i = .fn g [] → tget s'.env i = .any ∨ tget s'.env i = .fn g [])
theorem WFr.refl (W : List Nat) (s : TSt) : WFr W s s := fun i _ => ⟨fun h => h, fun t x h => .inr h, fun t x h => .inr h, fun g h => .inr h⟩
theorem WFr.trans {W W' W'' : List Nat} {s1 s2 s3 : TSt} (h : WFr W s1 s2) (k : WFr W' s2 s3) (h1 : ∀ i, i ∉ W'' → i ∉ W) (h2 : ∀ i, i ∉ W'' → i ∉ W') : WFr W'' s1 s3 := by
 intro i hi
 obtain ⟨a1, a2, a3, a4⟩ := h i (h1 i hi)
 obtain ⟨b1, b2, b3, b4⟩ := k i (h2 i hi)
 refine ⟨fun e => b1 (a1 e), fun t x e => ?_, fun t x e => ?_, fun g e => ?_⟩
 ·rcases a2 t x e with e | e
  ·exact .inl (b1 e)
  ·exact b2 t x e
 ·rcases a3 t x e with e | e
  ·exact .inl (b1 e)
  ·exact b3 t x e
 ·rcases a4 g e with e | e
  ·exact .inl (b1 e)
  ·exact b4 g e
theorem WFr.mono {W W' : List Nat} {s1 s2 : TSt} (h : WFr W s1 s2) (h1 : ∀ i, i ∉ W' → i ∉ W) : WFr W' s1 s2 := fun i hi => h i (h1 i hi)
theorem WFr.put {W : List Nat} {s s' : TSt} (h : WFr W s s') {d : Option Nat} (hd : ∀ i, d = some i → i ∈ W) (x : SV) : WFr W s (s'.put d x) := by
 intro i hi
 cases d with
 | none => exact h i hi
 | some d =>
  have hne : ¬ i = d := fun e => hi (e ▸ hd d rfl)
  simp only [TSt.put, tget]
  rw [if_neg hne]
  exact h i hi
theorem WFr.subAll (W : List Nat) (s : TSt) (g : SV → SV) (id : Nat) (ob : TObj) : WFr W s (s.subAll g id ob) := by
 intro i _
 simp only [TSt.subAll]
 rw [Z1t (SV.sub g) rfl]
 exact ⟨fun h => by rw [h]; rfl, fun t x h => .inr (by rw [h]; rfl), fun t x h => .inr (by rw [h]; rfl), fun g h => .inr (by rw [h]; rfl)⟩
theorem WFr.freezeT (W : List Nat) (TY : Nat → Option Ty) (s : TSt) (id : Nat) : WFr W s (freezeT TY s id) := by
 unfold Eng.freezeT
 split
 ·exact WFr.subAll _ _ _ _ _
 ·exact WFr.subAll _ _ _ _ _
 ·exact WFr.subAll _ _ _ _ _
 ·split
  ·split
   ·exact WFr.subAll _ _ _ _ _
   ·exact WFr.refl _ _
  ·exact WFr.refl _ _
 ·exact WFr.refl _ _
theorem WFr.freezeAll (W : List Nat) (TY : Nat → Option Ty) : ∀ (ids : List Nat) (s : TSt), WFr W s (freezeAllT TY s ids)
 | [], s => WFr.refl _ _
 | id :: r, s => (WFr.freezeT W TY s id).trans (WFr.freezeAll W TY r _) (fun _ h => h) (fun _ h => h)
theorem _root_.Go.Proofs.YtnehieeplbgaiacDoor.Eng.RepAt.nilCell {s : St} (hr : RepAt X σ F s a w) {b j eb : Nat} {cs : List AV} (e sz : Nat) (hb : s.heap[b]? = some (.box eb cs)) (hj : cs[j]? = some (.v (.slice none 0 0))) :
  RepAt X (upd σ s.heap.length (some .nil)) F ⟨s.env, (s.heap ++ [AObj.row e sz []]).set b (.box eb (cs.set j (.own s.heap.length sz 0 0)))⟩ a w := by
 have h1 := hr.newNil e sz
 have hbl : b < s.heap.length := (List.getElem?_eq_some_iff.1 hb).1
 refine ⟨h1.defers, h1.size, h1.env, ⟨fun id o ho => ?_, fun id hid => h1.heap.out id (by simpa using hid), h1.heap.inj, h1.heap.lt, h1.heap.flt, h1.heap.lay⟩, h1.keep, h1.own, h1.fnew, h1.stab, by have := h1.hm; simpa using this⟩
 simp only at ho
 rw [List.getElem?_set] at ho
 split at ho
 ·rename_i e0
  subst e0
  split at ho
  ·cases ho
   obtain ⟨g, vs, k1, k2, k3, k4, k5⟩ := h1.heap.obj b (.box eb cs) (by simp only [List.getElem?_append_left hbl, hb])
   refine ⟨g, vs, k1, k2, by simpa using k3, k4, fun j' x u hx hu => ?_⟩
   rw [List.getElem?_set] at hx
   split at hx
   ·rename_i e1
    subst e1
    split at hx
    ·cases hx
     have h2 := (k5 j _ u hj hu).val
     subst h2
     exact .own0 _ _ (Z0 _ _ _)
    ·cases hx
   ·exact k5 j' x u hx hu
  ·cases ho
 ·exact h1.heap.obj id o ho
theorem leL_set : ∀ {cs ds : List AV}, AV.leL cs ds → ∀ {x y : AV}, AV.le x y → ∀ j, AV.leL (cs.set j x) (ds.set j y)
 | [], [], _, _, _, _, _ => trivial
 | a :: cs, b :: ds, h, x, y, hx, 0 => ⟨hx, h.2⟩
 | a :: cs, b :: ds, h, x, y, hx, j + 1 => ⟨h.1, leL_set h.2 hx j⟩
 | [], _ :: _, h, _, _, _, _ => h.elim
 | _ :: _, [], h, _, _, _, _ => h.elim
theorem Zgh (TY : Nat → Option Ty) {m : Nat} (hm : X.m = m) : ∀ (l : List PA) (s s' : TSt), preF TY m l s = some s' → Imp X s.toSt s'.toSt := by
 intro l
 induction l with
 | nil => intro s s' h; cases h; exact .refl _ _
 | cons p r ih =>
  intro s s' h
  cases p with
  | nil d e t =>
   simp only [preF] at h
   split at h
   ·rename_i hd
    refine Imp.trans ?_ (ih _ _ h)
    intro a w hr
    have hw : s.wf := by obtain ⟨σ, F, hr'⟩ := hr; exact Zap hr'
    have hlen : s.toSt.heap.length = s.heap.length := by simp [TSt.toSt]
    have h1 := Rep.nilOwn (d := d) (e := e) (sz := t.size) (by simp only [TSt.toSt, Zf]; rw [hd]; rfl) hr
    have h2 := Z6f hw (ob := .row e t []) (oa := .row e t.size []) (fun e' cs h => by cases h) ⟨rfl, rfl, rfl, fun i cs ds a b => by simp at a⟩
    refine h1.weak ?_
    rw [TSt.put_ok]
    refine StLe.put (s := ⟨s.toSt.env, s.toSt.heap ++ [.row e t.size []]⟩) h2 ?_ (some d)
    simp only [SV.toAV, hlen]
    rw [Z4 (e := e) (t := t) (xs := []) (by rw [Z3]; simp [TSt.push])]
    exact .refl _
   ·cases h
  | frz d =>
   simp only [preF] at h
   exact Imp.trans (Z13 TY _ _).1 (ih _ _ h)
  | nilB b j e t =>
   simp only [preF] at h
   split at h
   ·rename_i eb cs hq
    split at h
    ·rename_i hj
     refine Imp.trans ?_ (ih _ _ h)
     intro a w hr
     have hw : s.wf := by obtain ⟨σ, F, hr'⟩ := hr; exact Zap hr'
     have hlen : s.toSt.heap.length = s.heap.length := by simp [TSt.toSt]
     have hbl : b < s.heap.length := by rw [Z3] at hq; exact (List.getElem?_eq_some_iff.1 hq).1
     obtain ⟨σ, F, hr0⟩ := hr
     have hb' : s.toSt.heap[b]? = some (.box eb (SV.toAVL s.heap cs)) := by rw [TSt.heap_get, hq]; rfl
     have hj' : (SV.toAVL s.heap cs)[j]? = some (.v (.slice none 0 0)) := by
      rw [Z3] at hj
      rw [SV.toAVL_eq, List.getElem?_map, hj]; rfl
     have h1 := hr0.nilCell e t.size hb' hj'
     obtain ⟨e1, e2⟩ := Z99 hw (.row e t []) (fun e' cs h => by cases h)
     have hq1 : nth (s.heap ++ [TObj.row e t []]) b = some (.box eb cs) := by
      rw [Z3] at hq ⊢
      rw [List.getElem?_append_left hbl]; exact hq
     have hb1 : (TSt.toSt ⟨s.env, s.heap ++ [TObj.row e t []]⟩).heap[b]? = some (.box eb (SV.toAVL (s.heap ++ [TObj.row e t []]) cs)) := by
      rw [TSt.heap_get]
      show (nth (s.heap ++ [TObj.row e t []]) b).map _ = _
      rw [hq1]; rfl
     have hcs : SV.toAVL (s.heap ++ [TObj.row e t []]) cs = SV.toAVL s.heap cs := by
      rw [e1, List.getElem?_append_left (by rw [hlen]; exact hbl), hb'] at hb1
      have := Option.some.inj hb1
      injection this with _ h2
      exact h2.symm
     have h3 := Zex (s := ⟨s.env, s.heap ++ [TObj.row e t []]⟩) (id := b) (ob := .box eb (cs.set j (.own s.heap.length t.size))) (oa := .box eb ((SV.toAVL s.heap cs).set j (.own s.toSt.heap.length t.size 0 0)))
      (Z5x hq1) (by
       have : (TObj.box eb (cs.set j (.own s.heap.length t.size))).toObj (s.heap ++ [TObj.row e t []]) = .box eb ((SV.toAVL s.heap cs).set j (.own s.toSt.heap.length t.size 0 0)) := by
        simp only [TObj.toObj, SV.toAVL_eq, List.map_set]
        rw [SV.toAVL_eq, SV.toAVL_eq] at hcs
        rw [hcs, hlen]
        congr 2
        simp only [SV.toAV]
        rw [Z4 (e := e) (t := t) (xs := []) (by rw [Z3]; simp)]
        rfl
       rw [this]; exact ObjLe.refl _)
     refine Rep.weak ?_ ⟨_, F, h1⟩
     obtain ⟨p1, p2, p3⟩ := h3
     rw [e1] at p2 p3
     exact ⟨fun i => by have := p1 i; rw [e2] at this; exact this, p2, p3⟩
    ·cases h
   ·cases h
  | lipB b j ei =>
   simp only [preF] at h
   split at h
   ·rename_i eb cs hq
    split at h
    ·rename_i id sz hj
     split at h
     ·rename_i e t xs hq2
      split at h
      ·rename_i hd
       rw [Bool.and_eq_true] at hd
       obtain ⟨hd1, hd2⟩ := hd
       obtain rfl := of_decide_eq_true hd1
       have hmi : m ≤ id := Nat.le_of_ble_eq_true hd2
       refine Imp.trans ?_ (ih _ _ h)
       rintro a w ⟨σ, F, hr⟩
       have hb' : s.toSt.heap[b]? = some (.box eb (SV.toAVL s.heap cs)) := by rw [TSt.heap_get, hq]; rfl
       have hq' : s.toSt.heap[id]? = some (.row e t.size (List.map t.cells xs)) := by rw [TSt.heap_get, hq2]; rfl
       have hj' : (SV.toAVL s.heap cs)[j]? = some (.own id t.size 0 (List.map t.cells xs).length) := by
        rw [Z3] at hj
        rw [SV.toAVL_eq, List.getElem?_map, hj]
        simp only [Option.map_some, SV.toAV]
        rw [Z4 hq2, Z3u (u := t) xs]
       have hne : b ≠ id := fun e => by subst e; rw [hq] at hq2; cases hq2
       obtain ⟨σ', h1⟩ := hr.toLinB (ei := ei) (isz := t.isz) hq' t.size_pos hb' hj' (by omega)
       have k1 := Zw (s := s) (f := Z5 id) (g := Zk id) (id := id) (ob := .lin e ei t (some 0) none xs) (oa := .lin e ei t.size t.isz (some 0) none (List.map t.cells xs)) Z1i (ObjLe.refl _)
       have hbl : b < s.heap.length := by rw [Z3] at hq; exact (List.getElem?_eq_some_iff.1 hq).1
       have hqb : nth (s.subAll (Zk id) id (.lin e ei t (some 0) none xs)).heap b = some (.box eb (SV.subL (Zk id) cs)) := by
        rw [Z3] at hq ⊢
        simp only [TSt.subAll, setH_eq]
        rw [List.getElem?_set_ne (by omega), List.getElem?_map, hq]; rfl
       refine Rep.weak ?_ ⟨σ', F, h1⟩
       have hrl : ∀ i, rowLen (s.subAll (Zk id) id (.lin e ei t (some 0) none xs)).heap i = rowLen (lipS s b j id e ei eb t xs cs).heap i := Z5x hqb
       refine ⟨fun i => ?_, by simp [lipS, TSt.subAll, setH_eq, TSt.toSt], fun i oa ob ho ho' => ?_⟩
       ·have h2 := k1.1 i
        show AV.le _ (envGet (List.map _ _) i)
        simp only [TSt.toSt, Zf] at h2 ⊢
        show AV.le _ ((tget (s.subAll (Zk id) id (.lin e ei t (some 0) none xs)).env i).toAV (lipS s b j id e ei eb t xs cs).heap)
        rw [← Z72 hrl]
        exact h2
       ·simp only [TSt.toSt, lipS, setH_eq, List.getElem?_map] at ho'
        by_cases hi : i = b
        ·subst hi
         rw [List.getElem?_set_self (by simp [TSt.toSt]; exact hbl)] at ho
         rw [List.getElem?_set_self (by simp [TSt.subAll, setH_eq]; exact hbl)] at ho'
         cases ho
         cases ho'
         have h2 := k1.2.2 i (.box eb ((SV.toAVL s.heap cs).map (AV.sub (Z5 id)))) ((TObj.box eb (SV.subL (Zk id) cs)).toObj (s.subAll (Zk id) id (.lin e ei t (some 0) none xs)).heap) (by
          rw [List.getElem?_set_ne (by omega), List.getElem?_map, hb']; rfl) (by
          rw [Z3] at hqb
          simp only [TSt.toSt, List.getElem?_map, hqb]; rfl)
         refine ⟨rfl, ?_⟩
         have h3 : AV.leL ((SV.toAVL s.heap cs).map (AV.sub (Z5 id))) (SV.toAVL (s.subAll (Zk id) id (.lin e ei t (some 0) none xs)).heap (SV.subL (Zk id) cs)) := h2.2
         have e3 := Z1q hrl (SV.subL (Zk id) cs)
         simp only [lipS] at e3
         rw [setH_eq] at e3
         have e4 : ∀ (H : List TObj) (l : List SV) (y : SV), SV.toAVL H (l.set j y) = (SV.toAVL H l).set j (y.toAV H) := fun H l y => by
          rw [SV.toAVL_eq, SV.toAVL_eq, List.map_set]
         rw [e4, ← e3]
         exact leL_set h3 (.refl _) j
        ·rw [List.getElem?_set_ne (by omega)] at ho ho'
         obtain ⟨q0, hq0, rfl⟩ := Option.map_eq_some_iff.1 ho'
         have h2 := k1.2.2 i oa (q0.toObj (s.subAll (Zk id) id (.lin e ei t (some 0) none xs)).heap) ho (by simp only [TSt.toSt, List.getElem?_map, hq0]; rfl)
         have h3 : q0.toObj (s.subAll (Zk id) id (.lin e ei t (some 0) none xs)).heap = q0.toObj ((s.subAll (Zk id) id (.lin e ei t (some 0) none xs)).heap.set b (.box eb ((SV.subL (Zk id) cs).set j (.nm id [0])))) := by
          cases q0 with
          | box e' cs' =>
           simp only [TObj.toObj]
           have e3 := Z1q hrl cs'
           simp only [lipS, setH_eq] at e3
           rw [e3]
          | _ => rfl
         rw [← h3]
         exact h2
      ·cases h
     ·cases h
    ·cases h
   ·cases h
theorem preF_fr (W : List Nat) (TY : Nat → Option Ty) {m : Nat} : ∀ (l : List PA) (s s' : TSt), preF TY m l s = some s' → (∀ p ∈ l, ∀ d, p.slot = some d → d ∈ W) → WFr W s s' := by
 intro l
 induction l with
 | nil => intro s s' h _; cases h; exact WFr.refl _ _
 | cons p r ih =>
  intro s s' h hW
  cases p with
  | nil d e t =>
   simp only [preF] at h
   split at h
   ·refine WFr.trans ?_ (ih _ _ h (fun p hp => hW p (List.mem_cons_of_mem _ hp))) (fun _ h => h) (fun _ h => h)
    exact WFr.put (d := some d) (fun i _ => ⟨fun h => h, fun t x h => .inr h, fun t x h => .inr h, fun g h => .inr h⟩) (fun i hi => by cases hi; exact hW _ (List.mem_cons_self ..) _ rfl) _
   ·cases h
  | frz d =>
   simp only [preF] at h
   exact WFr.trans (WFr.freezeAll W TY _ _) (ih _ _ h (fun p hp => hW p (List.mem_cons_of_mem _ hp))) (fun _ h => h) (fun _ h => h)
  | nilB b j e t =>
   simp only [preF] at h
   split at h
   ·split at h
    ·refine WFr.trans (W := W) (W' := W) ?_ (ih _ _ h (fun p hp => hW p (List.mem_cons_of_mem _ hp))) (fun _ h => h) (fun _ h => h)
     exact fun i _ => ⟨fun h => h, fun t x h => .inr h, fun t x h => .inr h, fun g h => .inr h⟩
    ·cases h
   ·cases h
  | lipB b j ei =>
   simp only [preF] at h
   split at h
   ·split at h
    ·rename_i id sz hj
     split at h
     ·rename_i e t xs hq2
      split at h
      ·refine WFr.trans (W := W) (W' := W) ?_ (ih _ _ h (fun p hp => hW p (List.mem_cons_of_mem _ hp))) (fun _ h => h) (fun _ h => h)
       exact WFr.subAll W s (Zk id) id (.lin e ei t (some 0) none xs)
      ·cases h
     ·cases h
    ·cases h
   ·cases h
def PSx (W : List Nat) (s s' : TSt) : Prop := ∀ i, i ∉ W → (tget s.env i = .any → tget s'.env i = .any) ∧ (∀ t (x : t.den), tget s.env i = .val t x → tget s'.env i = .val t x) ∧ (∀ t (x : t.den), tget s.env i = .rp t x → tget s'.env i = .rp t x) ∧ (∀ g, tget s.env i = .fn g [] → tget s'.env i = .fn g [])
theorem PSx.refl (W : List Nat) (s : TSt) : PSx W s s := fun _ _ => ⟨fun h => h, fun _ _ h => h, fun _ _ h => h, fun _ h => h⟩
theorem PSx.mono {W W' : List Nat} {s1 s2 : TSt} (h : PSx W s1 s2) (h1 : ∀ i, i ∉ W' → i ∉ W) : PSx W' s1 s2 := fun i hi => h i (h1 i hi)
theorem PSx.fr {W : List Nat} {s1 s2 : TSt} (h : PSx W s1 s2) : WFr W s1 s2 := fun i hi => ⟨(h i hi).1, fun t x hx => .inr ((h i hi).2.1 t x hx), fun t x hx => .inr ((h i hi).2.2.1 t x hx), fun g hx => .inr ((h i hi).2.2.2 g hx)⟩
theorem Z9g {β : Type} {m : Nat} (hm : X.m = m) : ∀ (l : List (Nat × SK)) (s : TSt) (k : TSt → Option β) (r : β), renF m l s k = some r → ∃ s', k s' = some r ∧ Imp X s.toSt s'.toSt ∧ PureSame s s' := by
 intro l
 induction l with
 | nil => exact fun s k r h => ⟨s, h, .refl _ _, PureSame.refl _⟩
 | cons p l ih =>
  obtain ⟨i, sk⟩ := p
  have next : ∀ (s : TSt) (k : TSt → Option β) (r : β), renF m l s k = some r → ∃ s', k s' = some r ∧ Imp X s.toSt s'.toSt ∧ PureSame s s' := fun s k r h => by
   obtain ⟨s', h1, h2, h3⟩ := ih s k r h
   exact ⟨s', h1, h2, h3⟩
  intro s k r h
  cases sk with
  | que k0 sz0 =>
   simp only [renF] at h
   split at h
   ·rename_i id sz off len hi
    split at h
    ·rename_i e t xs hq
     split at h
     ·rename_i hd
      rw [Bool.and_eq_true] at hd
      obtain ⟨hd, hmi⟩ := hd
      have hmi := Nat.le_of_ble_eq_true hmi
      obtain rfl := of_decide_eq_true hd
      obtain ⟨hc, h⟩ := Z3r h
      obtain ⟨s', h1, h2, h3⟩ := ih _ k r h
      refine ⟨s', h1, Imp.trans (fun a w hr => ?_) h2, ?_⟩
      ·have hq' : s.toSt.heap[id]? = some (.row e t.size (List.map t.cells xs)) := by rw [TSt.heap_get, hq]; rfl
       have h4 := Rep.dropRow hr (i := i) (off := off) (len := len) (by simp only [TSt.toSt, Zf]; rw [hi]; rfl) hq' (by rw [Z3u (u := t) xs]; exact hc) (by omega)
       refine h4.weak ?_
       rw [TSt.put_ok]
       have h5 := Zw (s := s) (f := Z5 id) (g := Zk id) (id := id) (ob := .row e t (List.drop off xs)) (oa := .row e t.size ((List.map t.cells xs).drop off)) Z1i (by
        have e2 : (List.map t.cells xs).drop off = (List.drop off xs).map t.cells := (List.map_drop ..).symm
        rw [e2]; exact ObjLe.refl _)
       refine StLe.put (s := ⟨Zo (Z5 id) s.toSt.env, (s.toSt.heap.map (AObj.sub (Z5 id))).set id (.row e t.size ((List.map t.cells xs).drop off))⟩) h5 ?_ (some i)
       have hid : id < s.heap.length := by rw [Z3] at hq; exact (List.getElem?_eq_some_iff.1 hq).1
       simp only [SV.toAV]
       rw [Z4 (e := e) (t := t) (xs := List.drop off xs) (by rw [Z3]; simp [TSt.subAll, setH_eq, hid])]
       have e3 : (List.drop off xs).length = len := by
        have e4 : (List.drop off xs).length = List.length xs - off := List.length_drop ..
        rw [e4]; omega
       rw [e3]
       exact .refl _
      ·intro j
       have h5 := PureSame.subAll s (Zk id) id (.row e t (List.drop off xs)) j
       have h6 := h3 j
       by_cases hji : j = i
       ·subst hji
        refine ⟨fun h => ?_, fun t x h => ?_, fun t x h => ?_, fun g h => ?_⟩ <;> rw [hi] at h <;> cases h
       ·have h7 : tget ((s.subAll (Zk id) id (.row e t (List.drop off xs))).put (some i) (.own id t.size)).env j = tget (s.subAll (Zk id) id (.row e t (List.drop off xs))).env j := by
         simp only [TSt.put, tget]; rw [if_neg hji]
        rw [h7] at h6
        exact ⟨fun h => h6.1 (h5.1 h), fun t x h => h6.2.1 t x (h5.2.1 t x h), fun t x h => h6.2.2.1 t x (h5.2.2.1 t x h), fun g h => h6.2.2.2 g (h5.2.2.2 g h)⟩
     ·cases h
    ·cases h
   ·exact next _ _ _ h
  | val t =>
   obtain ⟨s', h1, h2, h3⟩ := ih _ k r h
   have hf := Z13 (X := X) (fun _ => none) (Z9x s.heap (SV.ids0L [tget s.env i])) s
   exact ⟨s', h1, hf.1.trans h2, hf.2.trans h3⟩
  | rp t => exact next _ _ _ h
  | own k0 sz0 => exact next _ _ _ h
  | ptr k0 sz0 => exact next _ _ _ h
  | nm k0 sz0 => exact next _ _ _ h
  | fn g => exact next _ _ _ h
  | agg cs => exact next _ _ _ h
  | nil => exact next _ _ _ h
  | inn k0 => exact next _ _ _ h
  | clo f cs => exact next _ _ _ h
end
end Go.Proofs.YtnehieeplbgaiacDoor.Eng
set_option linter.unusedVariables false
set_option linter.unusedSimpArgs false
namespace Go.Proofs.YtnehieeplbgaiacDoor.Eng
open Go Go.RowKit
section
variable {β : Type}
noncomputable def ckL : List Prop → Option β → Option β
 | [], a => a
 | c :: r, a => ck c (ckL r a)
noncomputable def useR (s : TSt) (d : Option Nat) (K : TSt → Option β) : R2 → Option β
 | .bad => none
 | .ok s' x => K (s'.put d x)
 | .cond c s' x => ck c (K (s'.put d x))
 | .call ts r s' => ob r fun y => K (s'.put d (Zcv ts y))
 | .callO ts os r s' => ob r fun y => K ((s'.pushL (ownObjs ts os y)).put d (Z8e s'.heap.length ts os y))
 | .callW keep f r s' => ob r fun y => ckL (Z4x s'.heap (encS f.outs y []).heap 0 keep) (K (TSt.put (s'.backL keep (encS f.outs y []).heap) d ((retL (Z2h (encS f.outs y []).env 0 f.nr)).sub (Zag keep s'.heap.length))))
 | .pick b x y => cb b (K (s.put d x)) (K (s.put d y))
 | .nq c b => nq c (K (s.put d (.val .bool b))) (K (s.put d (.val .bool (!b))))
def dB (n : Nat) : Option Nat → Bool
 | some d => decide (d < n)
 | none => true
def gd (want b : Bool) (x y : Option β) : Option β := match want with
 | true => cb b x y
 | false => cb b y x
noncomputable def Z6l (C : Cx) (o : Oper) (K : TSt → Option β) (s : TSt) : Option β := match dB C.n o.dst with
 | true => useR s o.dst K (exT2 C s o)
 | false => none
def undefS : SV := .cst (.tuple #[])
def isUndef : SV → Bool
 | .cst v => (match v with | .tuple a => decide (a.size = 0) | _ => false)
 | _ => false
noncomputable def Z1v (C : Cx) (ops : List Oper) (o : Oper) (A K : TSt → Option β) (s : TSt) : Option β := match o.guard with
 | none => A s
 | some (j, want) => (match nthDst ops j with
  | some d => (match isUndef (tget s.env d), decide (d < C.n) && dB C.n o.dst with
   | true, true => K (s.put o.dst undefS)
   | false, true => (match (tget s.env d).boo with
    | some b => gd want b (A (s.put (some d) (.cst (.bool want)))) (K ((s.put (some d) (.cst (.bool (!want)))).put o.dst undefS))
    | none => none)
   | _, _ => none)
  | none => none)
noncomputable def Z37 (C : Cx) (ops : List Oper) : List Oper → (TSt → Option β) → TSt → Option β
 | [], K, s => K s
 | o :: r, K, s => Z1v C ops o (Z6l C o (Z37 C ops r K)) (Z37 C ops r K) s
noncomputable def Z2i (C : Cx) (f : Bool) (o : Oper) (K : TSt → Option β) (s : TSt) : Option β := match dB C.n o.dst, f with
 | true, true => (match o.op with
  | .pick c p q => (match (s.ev c).boo with
   | some b => cb b (K (s.put o.dst (s.ev p))) (K (s.put o.dst (s.ev q)))
   | none => none)
  | .build t parts => (match Z81 C s t (parts.toList.map fun q => (q.1, s.ev q.2)) with
   | .ok _ x => K (s.put o.dst x)
   | _ => none)
  | op => useR s o.dst K (of1 s (exT1 C.T s op)))
 | true, false => (match o.op with
  | .call { callee := .value fop, args := args, .. } => useR s o.dst K (Zjz C s fop args.toList)
  | .alloc e => useR s o.dst K (Zeq C s e)
  | .box e y => useR s o.dst K (boxT C s e (inFZ C o.dst) (s.ev y))
  | .build t parts => useR s o.dst K (Z81 C s t (parts.toList.map fun q => (q.1, s.ev q.2)))
  | .buildSlice t len parts => useR s o.dst K (Z3t C s t len parts.toList)
  | .makeSlice t y z => useR s o.dst K (Z4b C s t (sameOp y z) (s.ev y))
  | .makeMap t none => useR s o.dst K (Z6u C s t)
  | .lookup t x k b => useR s o.dst K (Z9r C s t (s.ev x) (s.ev k) b)
  | .convert t t' x => (match Z4g C t t' (s.ev x) with
   | some y => useR s o.dst K (.ok s y)
   | none => none)
  | _ => none)
 | false, _ => none
noncomputable def Z20 (C : Cx) (ops : List Oper) (tail : TSt → Option β) : List (Nat × Bool) → TSt → Option β
 | [], s => tail s
 | (i, f) :: r, s => (match nthOp ops i with
  | some o => Z1v C ops o (Z2i C f o (Z20 C ops tail r)) (Z20 C ops tail r) s
  | none => none)
noncomputable def both (a b : Option β) : Option β := @ite _ (a = b) (Classical.propDecidable _) a none
def swpN (L i : Nat) : Nat := match decide (i = L), decide (i = L + 1) with
 | true, _ => L + 1
 | _, true => L
 | _, _ => i
def swpS (L : Nat) : SV → SV
 | .own i sz => .own (swpN L i) sz
 | .cut i sz off len => .cut (swpN L i) sz off len
 | .ptr i k sz j => .ptr (swpN L i) k sz j
 | .nm i k => .nm (swpN L i) k
 | x => x
def Z87 {α : Type} : List α → Nat → List α
 | a :: b :: r, 0 => b :: a :: r
 | a :: r, k + 1 => a :: Z87 r k
 | l, _ => l
def TSt.swap (s : TSt) (L : Nat) : TSt := ⟨s.env.map fun p => (p.1, p.2.sub (swpS L)), Z87 (s.heap.map (TObj.sub (swpS L))) L⟩
noncomputable def Zis (m L : Nat) (k : TSt → Option β) (s : TSt) : Option β := match Nat.ble (L + 2) s.heap.length && Nat.ble m L with
 | true => k (s.swap L)
 | false => k s
noncomputable def Zka (C : Cx) (ops : List Oper) (tail : TSt → Option β) (i : Nat) (π1 : List (Nat × Bool)) (j : Nat) (π2 : List (Nat × Bool)) (s : TSt) : Option β := match nthOp ops i, nthOp ops j with
 | some o, some o' => (match o.guard, o'.guard with
  | none, none => both (Z2i C false o (Z20 C ops tail π1) s) (Z2i C false o' (Z20 C ops (Zis C.m s.heap.length tail) π2) s)
  | _, _ => none)
 | _, _ => none
def Plan.isNo : Plan → Bool
 | .no => true
 | _ => false
noncomputable def Zt (C : Cx) (ops : List Oper) (tail : TSt → Option β) : Plan → TSt → Option β
 | .done, s => tail s
 | .take i r, s => (match nthOp ops i with
  | some o => Z1v C ops o (Z2i C true o (Zt C ops tail r)) (Zt C ops tail r) s
  | none => none)
 | .alt i a b, s => (match b.isNo with
  | true => (match nthOp ops i with
   | some o => Z1v C ops o (Z6l C o (Zt C ops tail a)) (Zt C ops tail a) s
   | none => none)
  | false => both (match nthOp ops i with
   | some o => Z1v C ops o (Z6l C o (Zt C ops tail a)) (Zt C ops tail a) s
   | none => none) (Zt C ops tail b s))
 | .swp k r, s => Zis C.m (s.heap.length - k) (Zt C ops tail r) s
 | .no, _ => none
noncomputable def Zkb (C : Cx) (ops : List Oper) (d : Nat × List (Nat × Bool) × Option (Nat × List (Nat × Bool) × Nat × List (Nat × Bool))) (K : TSt → Option β) (s : TSt) : Option β :=
 Z20 C ops (match d.2.2 with
  | none => Z37 C ops (Z7r ops d.1) K
  | some (i, π1, j, π2) => Zka C ops (Z37 C ops (Z7r ops d.1) K) i π1 j π2) d.2.1 s
end
theorem Z6b {β : Type} {b : Bool} {x y : Option β} {r : β} (h : cb b x y = some r) : (b = true → x = some r) ∧ (b = false → y = some r) := by
 cases b with
 | true => exact ⟨fun _ => h, fun e => (nomatch e)⟩
 | false => exact ⟨fun e => (nomatch e), fun _ => h⟩
theorem Z9y {β : Type} {want b : Bool} {x y : Option β} {r : β} (h : gd want b x y = some r) : (b = want → x = some r) ∧ (b = (!want) → y = some r) := by
 cases want with
 | true => exact Z6b h
 | false => exact (Z6b h).symm
theorem Zca {β : Type} {a b : Option β} {r : β} (h : both a b = some r) : a = some r ∧ b = some r := by
 unfold both at h
 by_cases hc : a = b
 ·rw [if_pos hc] at h; exact ⟨h, hc ▸ h⟩
 ·rw [if_neg hc] at h; cases h
theorem Zcb {β : Type} (a : Option β) : both a a = a := by unfold both; rw [if_pos rfl]
def Zj (ops : List Oper) : List Nat := ops.filterMap (·.dst)
section
variable {P : Program} {C : Cx} {X : Ctx} {σ : Nat → Option Blk} {F : Nat → Prop} {a : Act} {w : World} {s : TSt} {o : Oper} {β : Type}
theorem PureSame.fr {s s' : TSt} (h : PureSame s s') (W : List Nat) : WFr W s s' := fun i _ => ⟨(h i).1, fun t x hx => .inr ((h i).2.1 t x hx), fun t x hx => .inr ((h i).2.2.1 t x hx), fun g hx => .inr ((h i).2.2.2 g hx)⟩
theorem opT.mono {K K' : TSt → Prop} (h : opT P X o K s) (hk : ∀ s, K s → K' s) : opT P X o K' s := opWP.mono h fun s' ⟨s1, h1, h2⟩ => ⟨s1, h1, hk _ h2⟩
def lk (X : Ctx) (K : TSt → Option β) (r : β) (W : List Nat) (s : TSt) : St → Prop := fun s' => ∃ s1, Imp X s' s1.toSt ∧ K s1 = some r ∧ WFr W s s1
theorem Z1e {ops : List Oper} {o : Oper} (h : o ∈ ops) {d : Nat} (hd : o.dst = some d) : d ∈ Zj ops := List.mem_filterMap.2 ⟨o, h, hd⟩
theorem Z4a {ops : List Oper} {j d : Nat} (h : nthDst ops j = some d) : d ∈ Zj ops := by
 rw [nthDst_eq] at h
 obtain ⟨o, h1, h2⟩ := Option.bind_eq_some_iff.1 h
 exact Z1e (List.mem_of_getElem? h1) h2
theorem Z23 {n : Nat} {d : Option Nat} (h : dB n d = true) : dOK n d := by
 cases d with
 | none => trivial
 | some d => exact (of_decide_eq_true (p := d < n) h)
theorem ckL_some : ∀ {l : List Prop} {a : Option β} {r : β}, ckL l a = some r → (∀ c ∈ l, c) ∧ a = some r
 | [], _, _, h => ⟨fun _ hc => (nomatch hc), h⟩
 | c :: l, a, r, h => by
  obtain ⟨h1, h2⟩ := Z3r h
  obtain ⟨h3, h4⟩ := ckL_some (l := l) h2
  refine ⟨fun c' hc => ?_, h4⟩
  rcases List.mem_cons.1 hc with rfl | hc
  ·exact h1
  ·exact h3 _ hc
theorem PureSame.backL (s : TSt) (keep : List Nat) (hO : List TObj) : PureSame s (s.backL keep hO) := by
 refine PureSame.trans (s2 := s.killL (deadL hO 0 keep)) ?_ (.of _ _ rfl)
 cases deadL hO 0 keep with
 | nil => exact .refl _
 | cons d r => exact PureSame.trans (PureSame.subAll s (Z4y (d :: r)) s.heap.length .dead) (.of _ _ rfl)
theorem Zfv {W : List Nat} (hd : ∀ d, o.dst = some d → d ∈ W) {q : R2} (hq : Tell2 P X o s q) {K : TSt → Option β} {r : β} (h : useR s o.dst K q = some r) : opWP P X o (lk X K r W s) s.toSt := by
 have put : ∀ {s' : TSt} (x : SV), PureSame s s' → WFr W s (s'.put o.dst x) := fun x hp => WFr.put (hp.fr W) hd x
 cases q with
 | bad => cases h
 | ok s' x => exact hq.2 (fun s1 => K s1 = some r ∧ WFr W s s1) ⟨h, put x hq.1⟩
 | cond c s' x =>
  obtain ⟨hc, h⟩ := Z3r h
  exact hq.2 hc (fun s1 => K s1 = some r ∧ WFr W s s1) ⟨h, put x hq.1⟩
 | call ts q s' =>
  obtain ⟨y, h1, h2⟩ := Z5z h
  exact hq.2 y h1 (fun s1 => K s1 = some r ∧ WFr W s s1) ⟨h2, put _ hq.1⟩
 | callO ts os q s' =>
  obtain ⟨y, h1, h2⟩ := Z5z h
  exact hq.2 y h1 (fun s1 => K s1 = some r ∧ WFr W s s1) ⟨h2, put _ (hq.1.trans (.of _ _ rfl))⟩
 | callW keep f q s' =>
  obtain ⟨y, h1, h2⟩ := Z5z h
  obtain ⟨h3, h4⟩ := ckL_some h2
  exact hq.2 y h1 h3 (fun s1 => K s1 = some r ∧ WFr W s s1) ⟨h4, put _ (hq.1.trans (.backL _ _ _))⟩
 | pick b x y =>
  obtain ⟨h1, h2⟩ := Z6b h
  exact hq (fun s1 => K s1 = some r ∧ WFr W s s1) (fun e => ⟨h1 e, put _ (.refl _)⟩) (fun e => ⟨h2 e, put _ (.refl _)⟩)
 | nq c b =>
  obtain ⟨h1, h2⟩ := nq_some h
  refine hq (fun s1 => K s1 = some r ∧ WFr W s s1) (fun _ => ⟨h1, put _ (.refl _)⟩) (fun hc b' => ⟨?_, put _ (.refl _)⟩)
  by_cases e : b' = b
  ·subst e; exact h1
  ·have e' : b' = !b := by cases b <;> cases b' <;> first | rfl | exact absurd rfl e
   rw [e']; exact h2 hc
theorem Z2n {d : Nat} {b : Bool} (hd : (tget s.env d).boo = some b) : Imp X s.toSt (s.put (some d) (.cst (.bool b))).toSt := by
 intro a w hr
 have h := Rep.know (d := d) (b := b) (by simp only [TSt.toSt, Zf]; exact Z3b hd) hr
 rw [TSt.put_ok]
 exact h
theorem Z4d {x : SV} (h : isUndef x = true) : x = undefS := by
 unfold isUndef at h
 split at h
 ·split at h
  ·rename_i a
   rw [Array.eq_empty_of_size_eq_zero (of_decide_eq_true h)]; rfl
  ·cases h
 ·cases h
theorem Z47 (h : List TObj) : undefS.toAV h = .v undef := rfl
theorem Z24 {s : St} {ops : Array Oper} {j d : Nat} (hj : (ops[j]?).bind (·.dst) = some d) (hn : d < X.n) (hd : envGet s.env d = .v undef) {a : Act} {w : World} (hr : Rep X s a w) : yielded ops a.tmps j = none := by
 obtain ⟨σ, F, hr⟩ := hr
 have hv : a.tmps.getD d undef = undef := RepV.val (hd ▸ hr.env d)
 have hlt : d < a.tmps.size := by rw [hr.size]; exact hn
 have : a.tmps[d]? = some undef := by
  rw [Array.getElem?_eq_getElem hlt]
  rw [Array.getD_eq_getD_getElem?, Array.getElem?_eq_getElem hlt] at hv
  exact congrArg some hv
 simp [yielded, hj, this, undef]
theorem WPO.skip {ops : Array Oper} {rest : List Oper} {o : Oper} {K : St → Prop} {s : St} (hw : ∀ a w, Rep X s a w → Region.wanted o (yielded ops a.tmps) = false) (hdst : dOK X.n o.dst) (h : WPO P X ops rest K (s.put o.dst (.v undef))) : WPO P X ops (o :: rest) K s := by
 intro Qc a w hK hr
 refine wpList_step fun K' hK' => ?_
 rw [if_neg (by rw [hw a w hr]; simp)]
 obtain ⟨σ, F, hr⟩ := hr
 exact hK' _ _ (h Qc _ _ hK ⟨σ, F, hr.put hdst (.f _ _ (.v _))⟩)
theorem Z5j (hC : CxOK P C) (hn : X.n = C.n) (hm : X.m = C.m) (ops : List Oper) : ∀ (l : List Oper) (K : TSt → Option β) (s : TSt) (r : β), (∀ o ∈ l, o ∈ ops) → Z37 C ops l K s = some r → WPO P X ops.toArray l (lk X K r (Zj ops) s) s.toSt
 | [], K, s, r, _, h => WPO.nil ⟨s, .refl _ _, h, .refl _ _⟩
 | o :: l, K, s, r, hin, h => by
  have ho : o ∈ ops := hin o (List.mem_cons_self ..)
  have hl : ∀ o ∈ l, o ∈ ops := fun o h => hin o (List.mem_cons_of_mem _ h)
  have rest : ∀ {s0 s' : TSt}, Z37 C ops l K s' = some r → WFr (Zj ops) s0 s' → WPO P X ops.toArray l (lk X K r (Zj ops) s0) s'.toSt := fun h1 h2 => by
   intro Qc a w hK hr
   exact Z5j hC hn hm ops l K _ r hl h1 Qc a w (fun s2 a' w' ⟨s3, h3, h4, h5⟩ hr' => hK s2 a' w' ⟨s3, h3, h4, h2.trans h5 (fun _ h => h) (fun _ h => h)⟩ hr') hr
  have one : ∀ {s0 s : TSt}, WFr (Zj ops) s0 s → Z6l C o (Z37 C ops l K) s = some r → opWP P X o (WPO P X ops.toArray l (lk X K r (Zj ops) s0)) s.toSt := fun {s0 s} hs h => by
   unfold Z6l at h
   split at h
   ·rename_i hd
    refine (Zfv (fun d hd => Z1e ho hd) (Zhs hC hm (hn ▸ Z23 hd)) h).mono ?_
    rintro s' ⟨s1, h1, h2, h3⟩ Qc a w hK hr
    exact rest h2 (hs.trans h3 (fun _ h => h) (fun _ h => h)) Qc a w hK (h1 a w hr)
   ·cases h
  unfold Z37 Z1v at h
  split at h
  ·rename_i hg
   exact WPO.cons hg (one (.refl _ _) h)
  ·rename_i j want hg
   split at h
   ·rename_i d hj
    have hj' : (ops.toArray[j]?).bind (·.dst) = some d := by rw [List.getElem?_toArray, ← nthDst_eq]; exact hj
    have hdm := Z4a hj
    have wf1 : ∀ (v : SV), WFr (Zj ops) s (s.put (some d) v) := fun v => WFr.put (.refl _ _) (fun i hi => by cases hi; exact hdm) v
    split at h
    ·rename_i hu hdn
     rw [Bool.and_eq_true] at hdn
     have hu' := Z4d hu
     refine WPO.skip (fun a w hr => ?_) (hn ▸ Z23 hdn.2) ?_
     ·have h1 := Z24 hj' (hn ▸ of_decide_eq_true hdn.1) (by simp only [TSt.toSt, Zf]; rw [hu']; rfl) hr
      simp [Region.wanted, hg, h1]
     ·have h3 := rest (s0 := s) h (WFr.put (.refl _ _) (fun i hi => Z1e ho hi) _)
      rwa [TSt.put_ok, Z47] at h3
    ·rename_i hu hdn
     rw [Bool.and_eq_true] at hdn
     split at h
     ·rename_i b hb
      obtain ⟨h1, h2⟩ := Z9y h
      by_cases e : b = want
      ·refine WPO.guard hg hj' (by simp only [TSt.toSt, Zf]; exact Z3b hb) (hn ▸ Z23 hdn.2) (hn ▸ of_decide_eq_true hdn.1) (fun e => ?_) (fun e' => ?_)
       ·exact opWP.from (Z2n (by rw [hb, e])) (one (wf1 _) (h1 e))
       ·exfalso; rw [e] at e'; cases want <;> cases e'
      ·have e' : b = !want := by cases b <;> cases want <;> first | rfl | exact absurd rfl e
       have hk : Imp X s.toSt (s.put (some d) (.cst (.bool (!want)))).toSt := Z2n (by rw [hb, e'])
       have h3 := rest (s0 := s) (h2 e') (WFr.put (wf1 _) (fun i hi => Z1e ho hi) _)
       rw [TSt.put_ok, Z47] at h3
       have h4 := WPO.skip (o := o) (s := (s.put (some d) (.cst (.bool (!want)))).toSt) (fun a w hr => by
        have h1 : yielded ops.toArray a.tmps j = some (!want) := by
         obtain ⟨σ, F, hr⟩ := hr
         have hv : a.tmps.getD d undef = .bool (!want) := RepV.val ((by simp only [TSt.toSt, Zf, TSt.put, tget, if_true]; rfl : envGet (s.put (some d) (.cst (.bool (!want)))).toSt.env d = AV.v (.bool (!want))) ▸ hr.env d)
         have hlt : d < a.tmps.size := by rw [hr.size, hn]; exact of_decide_eq_true hdn.1
         have : a.tmps[d]? = some (.bool (!want)) := by
          rw [Array.getElem?_eq_getElem hlt]
          rw [Array.getD_eq_getD_getElem?, Array.getElem?_eq_getElem hlt] at hv
          exact congrArg some hv
         simp only [yielded, hj', Option.bind_some, this]
        simp [Region.wanted, hg, h1]) (hn ▸ Z23 hdn.2) h3
       intro Qc a w hK hr
       exact h4 Qc a w hK (hk a w hr)
     ·cases h
    ·cases h
   ·cases h
end
end Go.Proofs.YtnehieeplbgaiacDoor.Eng
set_option linter.unusedVariables false
set_option linter.unusedSimpArgs false
namespace Go.Proofs.YtnehieeplbgaiacDoor.Eng
open Go Go.RowKit
section
variable {P : Program} {C : Cx} {X : Ctx} {σ : Nat → Option Blk} {F : Nat → Prop} {a : Act} {w : World} {s : TSt} {o : Oper} {β : Type} {ops : Array Oper} {n : Nat} {rest : List (Nat × Bool)} {listed : Array Bool}
theorem DrawJ.mono {K K' : St → Prop} {s : St} (hk : ∀ s, K s → K' s) (h : DrawJ P X ops n rest listed K s) : DrawJ P X ops n rest listed K' s :=
 fun Qc a w hQ hK hr inv => h Qc a w hQ (fun s' a' w' h1 h2 => hK s' a' w' (hk _ h1) h2) hr inv
theorem Z2t {W : List Nat} (hd : ∀ d, o.dst = some d → d ∈ W) {q : R2} (hq : Z5v P X o s q) {K : TSt → Option β} {r : β} (h : useR s o.dst K q = some r) : opWPG P X o (lk X K r W s) s.toSt := by
 cases q with
 | bad => cases h
 | call ts q s' =>
  obtain ⟨y, h1, h2⟩ := Z5z h
  exact hq.2 y h1 (fun s1 => K s1 = some r ∧ WFr W s s1) ⟨h2, WFr.put (hq.1.fr W) hd _⟩
 | callO ts os q s' =>
  obtain ⟨y, h1, h2⟩ := Z5z h
  have hp : PureSame s (s'.pushL (ownObjs ts os y)) := hq.1.trans (.of _ _ rfl)
  exact hq.2 y h1 (fun s1 => K s1 = some r ∧ WFr W s s1) ⟨h2, WFr.put (hp.fr W) hd _⟩
 | ok s' x => exact hq.2 (fun s1 => K s1 = some r ∧ WFr W s s1) ⟨h, WFr.put (hq.1.fr W) hd _⟩
 | cond c s' x =>
  obtain ⟨hc, h⟩ := Z3r h
  exact hq.2 hc (fun s1 => K s1 = some r ∧ WFr W s s1) ⟨h, WFr.put (hq.1.fr W) hd _⟩
 | _ => exact hq.elim
def Z53 (ops : Array Oper) (n : Nat) : List (Nat × Bool) → Array Bool → Option (Array Bool)
 | [], listed => some listed
 | (i, true) :: r, listed => (match decide (i < n) && (Region.ready .any ops listed).contains i && Region.free .any ops listed i with
  | true => Z53 ops n r (listed.setIfInBounds i true)
  | false => none)
 | (i, false) :: r, listed => (match decide (i < n) && decide (Region.ready .any ops listed = [i]) with
  | true => Z53 ops n r (listed.setIfInBounds i true)
  | false => none)
theorem Zfn {ops : Array Oper} {n i : Nat} {π : List (Nat × Bool)} {listed l' : Array Bool} (h : Z53 ops n ((i, true) :: π) listed = some l') : ((i < n ∧ (Region.ready .any ops listed).contains i = true) ∧ Region.free .any ops listed i = true) ∧ Z53 ops n π (listed.setIfInBounds i true) = some l' := by
 simp only [Z53] at h
 split at h
 ·rename_i hc
  simp only [Bool.and_eq_true, decide_eq_true_eq] at hc
  exact ⟨hc, h⟩
 ·cases h
theorem Zfo {ops : Array Oper} {n i : Nat} {π : List (Nat × Bool)} {listed l' : Array Bool} (h : Z53 ops n ((i, false) :: π) listed = some l') : (i < n ∧ Region.ready .any ops listed = [i]) ∧ Z53 ops n π (listed.setIfInBounds i true) = some l' := by
 simp only [Z53] at h
 split at h
 ·rename_i hc
  simp only [Bool.and_eq_true, decide_eq_true_eq] at hc
  exact ⟨hc, h⟩
 ·cases h
theorem Z38 (hC : CxOK P C) (hn : X.n = C.n) (hm : X.m = C.m) {l : List Oper} {h : Nat} (hs : Region.noSelect l.toArray = true) (hh : Z7l .any l.toArray h = true) {tail : TSt → Option β} {r : β} {rest : List (Nat × Bool)} {listed' : Array Bool} {K' : St → Prop} {s0 : TSt} :
  ∀ (π : List (Nat × Bool)) (listed : Array Bool) (s : TSt), Z53 l.toArray h π listed = some listed' → Z20 C l tail π s = some r → WFr (Zj l) s0 s → (∀ s', tail s' = some r → WFr (Zj l) s0 s' → DrawJ P X l.toArray h rest listed' K' s'.toSt) → DrawJ P X l.toArray h (π ++ rest) listed K' s.toSt
 | [], listed, s, hw, hx, hf0, hk => by
  cases hw
  exact hk s hx hf0
 | (i, f) :: π, listed, s, hw, hx, hf0, hk => by
  show DrawJ P X l.toArray h ((i, f) :: (π ++ rest)) listed K' s.toSt
  unfold Z20 at hx
  rw [nthOp_eq] at hx
  split at hx
  ·rename_i o hi
   have hi' : l.toArray[i]? = some o := by rw [List.getElem?_toArray]; exact hi
   have ho : o ∈ l := List.mem_of_getElem? hi
   have hdm : ∀ d, o.dst = some d → d ∈ Zj l := fun d hd => Z1e ho hd
   have ih : ∀ {s' : TSt}, WFr (Zj l) s0 s' → Z20 C l tail π s' = some r → Z53 l.toArray h π (listed.setIfInBounds i true) = some listed' → DrawJ P X l.toArray h (π ++ rest) (listed.setIfInBounds i true) K' s'.toSt := fun {s'} hf h1 h2 =>
    Z38 hC hn hm hs hh π _ s' h2 h1 hf hk
   have step : ∀ {s' : TSt}, WFr (Zj l) s0 s' → (∀ a w, Rep X s'.toSt a w → Region.wanted o (yielded l.toArray a.tmps) = true) → Z2i C f o (Z20 C l tail π) s' = some r → DrawJ P X l.toArray h ((i, f) :: (π ++ rest)) listed K' s'.toSt := by
    intro s' hf hwant hx
    unfold Z2i at hx
    split at hx
    ·rename_i hd _
     have hd' : dOK X.n o.dst := hn ▸ Z23 hd
     obtain ⟨⟨⟨hw1, hw2⟩, hw3⟩, hw4⟩ := Zfn hw
     have val : ∀ {x : SV} {v : AV}, (∀ σ F a w, RepAt X σ F s'.toSt a w → ∃ u, (∀ w', Grow w w' → (execOp a.eval o).run P w' = .ok (.value u) w') ∧ RepV σ F w v u) → AV.le v (x.toAV s'.heap) → Z20 C l tail π (s'.put o.dst x) = some r → DrawJ P X l.toArray h ((i, true) :: (π ++ rest)) listed K' s'.toSt := by
      intro x v hv hle hx
      refine DrawJ.take hi' hs hh hw1 hw2 hw3 hd' (x := x.toAV s'.heap) (fun σ F a w hat => ?_) ?_
      ·obtain ⟨u, h1, h2⟩ := hv σ F a w hat
       exact ⟨u, .inl ⟨hwant a w ⟨σ, F, hat⟩, h1⟩, RepV.le hle h2⟩
      ·rw [← TSt.put_ok]
       exact ih (WFr.put hf hdm _) hx hw4
     split at hx
     ·rename_i cnd p q ho'
      split at hx
      ·rename_i b hb
       obtain ⟨h1, h2⟩ := Z6b hx
       cases b with
       | true =>
        refine val (x := s'.ev p) (v := s'.toSt.ev p) (fun σ F a w hat => ?_) (by rw [TSt.ev_ok]; exact .refl _) (h1 rfl)
        have hv : a.eval cnd = .bool true := RepV.val ((show s'.toSt.ev cnd = AV.v (.bool true) by rw [TSt.ev_ok, Z3b hb]) ▸ hat.ev cnd)
        exact ⟨a.eval p, fun w' _ => by simp [execOp, ho', hv, asBool], hat.ev p⟩
       | false =>
        refine val (x := s'.ev q) (v := s'.toSt.ev q) (fun σ F a w hat => ?_) (by rw [TSt.ev_ok]; exact .refl _) (h2 rfl)
        have hv : a.eval cnd = .bool false := RepV.val ((show s'.toSt.ev cnd = AV.v (.bool false) by rw [TSt.ev_ok, Z3b hb]) ▸ hat.ev cnd)
        exact ⟨a.eval q, fun w' _ => by simp [execOp, ho', hv, asBool], hat.ev q⟩
      ·cases hx
     ·rename_i t parts ho'
      split at hx
      ·rename_i s1 x hb
       refine val (x := x) (v := x.toAV s'.heap) (fun σ F a w hat => ?_) (.refl _) hx
       obtain ⟨u, h1, h2⟩ := Zc8 (X := X) hC.T ho' hb σ F a w hat
       exact ⟨u, fun w' _ => h1 w', h2⟩
      ·cases hx
     ·have ht := Z6a (T := C.T) (s := s') (op := o.op)
      cases hq : exT1 C.T s' o.op with
      | bad => rw [hq] at hx; cases hx
      | ok x =>
       rw [hq] at hx ht
       obtain ⟨c', x', he, hc, hle⟩ := ht
       exact val (fun σ F a w hat => Za6 hC.T hat he hc) hle hx
      | cond c x =>
       rw [hq] at hx ht
       obtain ⟨hc, hx⟩ := Z3r hx
       obtain ⟨c', x', he, hc, hle⟩ := ht hc
       exact val (fun σ F a w hat => Za6 hC.T hat he hc) hle hx
    ·rename_i hd _
     have hd' : dOK X.n o.dst := hn ▸ Z23 hd
     obtain ⟨⟨hw1, hw2⟩, hw4⟩ := Zfo hw
     have fin : ∀ {q : R2}, Z5v P X o s' q → useR s' o.dst (Z20 C l tail π) q = some r → DrawJ P X l.toArray h ((i, false) :: (π ++ rest)) listed K' s'.toSt := by
      intro q hq hx
      refine DrawJ.only hi' hw1 hw2 (fun Qc next a w hnx hr => ?_)
      rw [if_pos (hwant a w hr)]
      refine ((Z2t hdm hq hx).mono ?_) Qc next a w hnx hr
      rintro s2 ⟨s1, h1, h2, h3⟩
      exact DrawJ.from h1 (ih (hf.trans h3 (fun _ h => h) (fun _ h => h)) h2 hw4)
     split at hx
     ·rename_i fop args ts ho'; exact fin (Zdi hC hd' ho') hx
     ·rename_i e ho'; exact fin (Zal hC.T hd' ho') hx
     ·rename_i e y ho'; exact fin (Zi7 hC.T hd' ho') hx
     ·rename_i t parts ho'; exact fin (Zaf hC.T hd' ho') hx
     ·rename_i t len parts ho'; exact fin (Z3s hC.T hd' ho') hx
     ·rename_i t y z ho'; exact fin (Z41 hC.T hd' ho') hx
     ·rename_i t ho'; exact fin (Z61 hC hd' ho') hx
     ·rename_i t x k b ho'; exact fin (Z7h hC hd' ho') hx
     ·rename_i t t' x ho'
      split at hx
      ·rename_i y hy; exact fin (Z45 hC.T hd' ho' hy) hx
      ·cases hx
     ·cases hx
    ·cases hx
   unfold Z1v at hx
   split at hx
   ·rename_i hg
    exact step hf0 (fun a w hr => by simp [Region.wanted, hg]) hx
   ·rename_i j want hg
    split at hx
    ·rename_i d hj
     have hj' : (l.toArray[j]?).bind (·.dst) = some d := by rw [List.getElem?_toArray, ← nthDst_eq]; exact hj
     have hdj := Z4a hj
     have wf1 : ∀ (v : SV), WFr (Zj l) s0 (s.put (some d) v) := fun v => WFr.put hf0 (fun i hi => by cases hi; exact hdj) v
     have skip : ∀ {s' : TSt}, WFr (Zj l) s0 s' → dOK X.n o.dst → (∀ a w, Rep X s'.toSt a w → Region.wanted o (yielded l.toArray a.tmps) = false) → Z20 C l tail π (s'.put o.dst undefS) = some r → DrawJ P X l.toArray h ((i, f) :: (π ++ rest)) listed K' s'.toSt := by
      intro s' hf hdst hno hx9
      have hfr : WFr (Zj l) s0 (s'.put o.dst undefS) := WFr.put hf hdm _
      cases f with
      | true =>
       obtain ⟨⟨⟨hw1, hw2⟩, hw3⟩, hw4⟩ := Zfn hw
       have h9 := ih hfr hx9 hw4
       rw [TSt.put_ok, Z47] at h9
       exact DrawJ.take hi' hs hh hw1 hw2 hw3 hdst (fun σ F a w hat => ⟨undef, .inr ⟨hno a w ⟨σ, F, hat⟩, rfl⟩, .f _ _ (.v _)⟩) h9
      | false =>
       obtain ⟨⟨hw1, hw2⟩, hw4⟩ := Zfo hw
       refine DrawJ.only hi' hw1 hw2 (fun Qc next a w hnx hr => ?_)
       rw [if_neg (by simp [hno a w hr])]
       obtain ⟨σ, F, hr⟩ := hr
       have h9 := ih hfr hx9 hw4
       rw [TSt.put_ok, Z47] at h9
       exact hnx _ _ _ h9 ⟨σ, F, hr.put hdst (.f _ _ (.v _))⟩ (Grow.refl w)
     split at hx
     ·rename_i hu hdn
      rw [Bool.and_eq_true] at hdn
      have hu' := Z4d hu
      refine skip hf0 (hn ▸ Z23 hdn.2) (fun a w hr => ?_) hx
      have h1 := Z24 hj' (hn ▸ of_decide_eq_true hdn.1) (by simp only [TSt.toSt, Zf]; rw [hu']; rfl) hr
      simp [Region.wanted, hg, h1]
     ·rename_i hu hdn
      rw [Bool.and_eq_true] at hdn
      have hdl : d < X.n := hn ▸ of_decide_eq_true hdn.1
      split at hx
      ·rename_i b hb
       obtain ⟨h1, h2⟩ := Z9y hx
       have known : ∀ {b' : Bool} {a : Act} {w : World}, Rep X (s.put (some d) (.cst (.bool b'))).toSt a w → yielded l.toArray a.tmps j = some b' := fun {b' a w} hr =>
        Z3d hj' hdl (s := (s.put (some d) (.cst (.bool b'))).toSt) (by simp only [TSt.toSt, Zf, TSt.put, tget, if_true]; rfl) hr
       by_cases e : b = want
       ·refine DrawJ.from (Z2n (by rw [hb, e])) (step (wf1 _) (fun a w hr => ?_) (h1 e))
        simp [Region.wanted, hg, known hr]
       ·have e' : b = !want := by cases b <;> cases want <;> first | rfl | exact absurd rfl e
        refine DrawJ.from (Z2n (b := !want) (by rw [hb, e'])) (skip (wf1 _) (hn ▸ Z23 hdn.2) (fun a w hr => ?_) (h2 e'))
        simp [Region.wanted, hg, known hr]
      ·cases hx
     ·cases hx
    ·cases hx
  ·cases hx
end
section
variable {P : Program} {C : Cx} {X : Ctx} {σ : Nat → Option Blk} {F : Nat → Prop} {a : Act} {w : World} {s : TSt} {o : Oper} {β : Type} {ops : Array Oper} {n : Nat} {rest : List (Nat × Bool)} {listed : Array Bool} {K : St → Prop}
theorem DrawJ.two {s : St} {i j : Nat} {oi oj : Oper} {rest' : List (Nat × Bool)} (hi : ops[i]? = some oi) (hj : ops[j]? = some oj) (hin : i < n) (hjn : j < n) (hr : Region.ready .any ops listed = [i, j]) (hgi : oi.guard = none) (hgj : oj.guard = none) (hl : rest.length = rest'.length)
  (h1 : opWPG P X oi (DrawJ P X ops n rest (listed.setIfInBounds i true) K) s) (h2 : opWPG P X oj (DrawJ P X ops n rest' (listed.setIfInBounds j true) K) s) : DrawJ P X ops n ((i, false) :: rest) listed K s := by
 intro Qc a w hQ hK hrep inv
 refine ⟨by rw [hr]; simp, fun q hq => ?_⟩
 rw [hr] at hq
 have hq' : q ∈ Region.ready .any ops listed := by rw [hr]; exact hq
 have one : ∀ {o : Oper} {π : List (Nat × Bool)}, ops[q]? = some o → o.guard = none → q < n → π.length = rest.length → opWPG P X o (DrawJ P X ops n π (listed.setIfInBounds q true) K) s → q < n ∧ wpOp P ops Qc q (fun a' w' => Grow w w' ∧ anyT P .any ops Qc n (fun listed a w => Region.seqB .any ops (ops.size - n) n listed = true ∧ wpList P ops Qc (ops.toList.drop n) a w) rest.length (listed.setIfInBounds q true) a' w' (Grow w)) a w := by
  intro o π ho hg hqn hlen hw
  refine ⟨hqn, ?_⟩
  have h3 := hw Qc (fun a' w' => Grow w w' ∧ anyT P .any ops Qc n (fun listed a w => Region.seqB .any ops (ops.size - n) n listed = true ∧ wpList P ops Qc (ops.toList.drop n) a w) rest.length (listed.setIfInBounds q true) a' w' (Grow w)) a w
   (fun s' a' w' hd hr' hgr => ⟨hgr, by rw [← hlen]; exact Z86 (fun w2 h2 => hgr.trans h2) _ _ _ _ (hd Qc a' w' hQ hK hr' (inv.set hq' hqn))⟩) hrep
  unfold wpOp
  simp only [ho]
  rw [if_pos (by simp [Region.wanted, hg])]
  exact .inl h3
 rcases List.mem_cons.1 hq with rfl | hq
 ·exact one hi hgi hin rfl h1
 ·rw [List.mem_singleton] at hq
  subst hq
  exact one hj hgj hjn hl.symm h2
end
def Zkc (ops : Array Oper) (n : Nat) (π : List (Nat × Bool)) (i : Nat) (π1 : List (Nat × Bool)) (j : Nat) (π2 : List (Nat × Bool)) : Bool :=
 Region.noSelect ops && Z7l .any ops n && decide (π.length + (1 + π1.length) = n) && decide (π1.length = π2.length) && decide (n ≤ ops.size) && decide (i < n) && decide (j < n) && (match Z53 ops n π (Array.replicate ops.size false) with
  | some l => decide (Region.ready .any ops l = [i, j]) && Z71 ops n π1 (l.setIfInBounds i true) && Z71 ops n π2 (l.setIfInBounds j true)
  | none => false)
def regB (ops : Array Oper) (d : Nat × List (Nat × Bool) × Option (Nat × List (Nat × Bool) × Nat × List (Nat × Bool))) : Bool := match d.2.2 with
 | none => drawB ops d.1 d.2.1
 | some (i, π1, j, π2) => Zkc ops d.1 d.2.1 i π1 j π2
def exitB : Exit → Exit → Bool
 | .normal, .normal => true
 | .ret, .ret => true
 | .exit i, .exit j => decide (i = j)
 | _, _ => false
theorem Za5 {e e' : Exit} (h : exitB e e' = true) : e = e' := by
 unfold exitB at h
 split at h
 ·rfl
 ·rfl
 ·rw [of_decide_eq_true h]
 ·cases h
def Zbs (env : List (Nat × SV)) : List (Nat × SK) → Bool
 | [] => true
 | (i, _) :: r => (match tget env i with | .any => false | _ => Zbs env r)
def Z1k (env : List (Nat × SV)) : List (Nat × SK) → Bool
 | [] => true
 | (i, .val _) :: r => (match tget env i with | .val _ _ => Z1k env r | .cst _ => Z1k env r | _ => false)
 | (_, .rp _) :: r => Z1k env r
 | (i, .fn f) :: r => (match tget env i with | .fn f' [] => decide (f' = f) && Z1k env r | _ => false)
 | (_, .own _ _) :: _ => false
 | (_, .que _ _) :: _ => false
 | (_, .ptr _ _) :: _ => false
 | (_, .nm _ _) :: _ => false
 | (_, .agg _) :: _ => false
 | (_, .nil) :: _ => false
 | (_, .inn _) :: _ => false
 | (_, .clo _ _) :: _ => false
def sumD : List (Exit × Shape) → Type
 | [] => Empty
 | [p] => denL p.2.tys
 | p :: q :: r => denL p.2.tys ⊕ sumD (q :: r)
noncomputable def Zfh {β : Type} (m : Nat) : (l : List (Exit × Shape)) → Exit → TSt → (sumD l → Option β) → Option β
 | [], _, _, _ => none
 | [p], e, s, k => (match exitB p.1 e && Nat.ble m p.2.objs.length with
  | true => renF m p.2.slots s fun s => decS p.2 s k
  | false => none)
 | p :: q :: r, e, s, k => (match exitB p.1 e with
  | true => (match Nat.ble m p.2.objs.length with
   | true => renF m p.2.slots s fun s => decS p.2 s fun x => k (.inl x)
   | false => none)
  | false => Zfh m (q :: r) e s fun y => k (.inr y))
def Zk0 {β : Type} : (l : List (Exit × Shape)) → sumD l → (Exit → (sh : Shape) → denL sh.tys → Option β) → Option β
 | [], _, _ => none
 | [p], x, k => k p.1 p.2 x
 | p :: q :: r, x, k => Zae x (fun a => k p.1 p.2 a) (fun b => Zk0 (q :: r) b k)
structure Ent where
 pre : List PA
 inv : List (Nat × SK)
 car : Shape
 exits : List (Exit × Shape)
 step : denL (slotTys inv) → denL car.tys → Option (denL car.tys ⊕ sumD exits)
 m : Nat := 0
def Ent.head (ent : Ent) (iv : denL (slotTys ent.inv)) (x : denL ent.car.tys) : TSt := encS ent.car x (encI ent.inv iv)
noncomputable def Ent.kd (ent : Ent) (e : Exit) (s : TSt) : Option (denL ent.car.tys ⊕ sumD ent.exits) := match Zbs s.env ent.inv with
 | true => (match exitB .normal e with
  | true => renF ent.m ent.car.slots s fun s => decS ent.car s fun x => some (.inl x)
  | false => Zfh ent.m ent.exits e s fun y => some (.inr y))
 | false => none
noncomputable def runL {β : Type} (C : Cx) (ent : Ent) (K : Exit → TSt → Option β) (s : TSt) : Option β := match preF C.TY C.m ent.pre s with
 | some s => renF ent.m ent.car.slots s fun s => (match Z1k s.env ent.inv, asTL [] (slotTys ent.inv) (Z6 s.env ent.inv) with
  | true, some iv => decS ent.car s fun x => ob (Z1c (ent.step iv) x) fun r => Zk0 ent.exits r fun e sh a => K e (encS sh a (encI ent.inv iv))
  | _, _ => none)
 | none => none
def Plan.ids : Plan → List Nat
 | .alt i _ b => i :: b.ids
 | _ => []
def Z89 (T : Tab) (ops : Array Oper) (n : Nat) : Plan → Bool → Nat → Array Bool → Bool
 | .done, m, f, listed => !m && decide (f = 0) && Region.seqB .any ops (ops.size - n) n listed
 | .take i r, m, f, listed => !m && (match f with
  | 0 => false
  | f + 1 => decide (i < n) && (Region.ready .any ops listed).contains i && Region.free .any ops listed i && (match ops[i]? with | some o => Zaz T o.op | none => false) && Z89 T ops n r false f (listed.setIfInBounds i true))
 | .alt i a b, m, f, listed => (m || decide (Region.ready .any ops listed = i :: b.ids)) && (match f with
  | 0 => false
  | f' + 1 => decide (i < n) && Z89 T ops n a false f' (listed.setIfInBounds i true) && Z89 T ops n b true f listed)
 | .swp _ r, m, f, listed => !m && !r.isNo && Z89 T ops n r false f listed
 | .no, m, _, _ => m
def regP (T : Tab) (ops : Array Oper) (d : Nat × Plan) : Bool :=
 Region.noSelect ops && Z7l .any ops d.1 && decide (d.1 ≤ ops.size) && Z89 T ops d.1 d.2 false d.1 (Array.replicate ops.size false)
structure EntM where
 pre : List PA
 inv : List (Nat × SK)
 car : Shape
 exits : List (Exit × Shape)
 it : Nat
 k : Nat
 t : Ty
 step : denL (slotTys inv) → denL car.tys → Option (ByteArray × t.den) → Option (denL car.tys ⊕ sumD exits)
def EntM.ent (ent : EntM) : Ent := ⟨ent.pre, (ent.it, .val .adr) :: ent.inv, ent.car, ent.exits, fun _ _ => none, 0⟩
def EntM.head (ent : EntM) (g : Nat) (iv : denL (slotTys ent.inv)) (x : denL ent.car.tys) : TSt := ((encS ent.car x (encI ent.inv iv)).subAll (Zk ent.k) ent.k .dead).put (some ent.it) (.val .adr g)
def Zk5 {X E R : Type} (f : X → Option E → Option (X ⊕ R)) : List E → X → Option R
 | [], x => (match f x none with
  | some (.inr r) => some r
  | _ => none)
 | e :: l, x => (match f x (some e) with
  | some (.inl x') => Zk5 f l x'
  | some (.inr r) => some r
  | none => none)
noncomputable def loopM {X E R : Type} (f : X → Option E → Option (X ⊕ R)) (es : List E) (x : X) : Option R := by
 classical exact if h : ∃ r, ∀ l, List.Perm l es → Zk5 f l x = some r then some (Classical.choose h) else none
def deadAt : List OB → Nat → Bool
 | [], _ => false
 | .dead :: _, 0 => true
 | _ :: r, k + 1 => deadAt r k
 | _ :: _, 0 => false
def noSl : List (Nat × SK) → Nat → Bool
 | [], _ => true
 | p :: r, i => !decide (p.1 = i) && noSl r i
noncomputable def runM {β : Type} (C : Cx) (ent : EntM) (K : Exit → TSt → Option β) (s : TSt) : Option β := match tget s.env ent.it with
 | .nm id [] => (match nth s.heap id with
  | some (.iter t' es) => (match Zd (.slice (.pair .str ent.t)) (.slice (.pair .str t')) es, ent.t.scal && deadAt ent.car.objs id && decide (ent.k = id) && noSl ent.inv ent.it with
   | some es, true => (match preF C.TY C.m ent.pre (s.subAll (Zk id) id .dead) with
    | some s => renF 0 ent.car.slots s fun s => (match Z1k s.env ent.inv, asTL [] (slotTys ent.inv) (Z6 s.env ent.inv) with
     | true, some iv => decS ent.car s fun x => ob (loopM (ent.step iv) es x) fun r => Zk0 ent.exits r fun e sh a => K e (encS sh a (encI ent.inv iv))
     | _, _ => none)
    | none => none)
   | _, _ => none)
  | _ => none)
 | _ => none
structure EntR where
 inv : List (Nat × SK)
 sl : List (Nat × SK)
 obs : List OB
 outs : List OB
 it : Nat
 fn : Nat
 t : Ty
 pi : Nat
 pv : Nat
 step : denL (slotTys inv) → denL (Shape.tys ⟨sl, obs⟩) → Int → t.den → Option (denL (Shape.tys ⟨sl, obs⟩) ⊕ denL (Shape.tys ⟨sl, outs⟩))
def EntR.head (ent : EntR) (iv : denL (slotTys ent.inv)) (x : denL (Shape.tys ⟨ent.sl, ent.obs⟩)) (i : Int) (v : ent.t.den) : TSt := encS ⟨ent.sl, ent.obs⟩ x ((ent.pi, .val (.int .i64) i) :: (ent.pv, .val ent.t v) :: encI ent.inv iv)
def lensO : List TObj → List TObj → List Prop
 | .row _ _ xs :: r, .row _ _ ys :: r' => (ys.length = xs.length) :: lensO r r'
 | _ :: r, _ :: r' => lensO r r'
 | _, _ => []
noncomputable def EntR.kd (ent : EntR) (x : denL (Shape.tys ⟨ent.sl, ent.obs⟩)) (e : Exit) (s : TSt) : Option (denL (Shape.tys ⟨ent.sl, ent.obs⟩) ⊕ denL (Shape.tys ⟨ent.sl, ent.outs⟩)) := match e with
 | .normal => decS ⟨ent.sl, ent.obs⟩ s fun x' => ckL (lensO (encS ⟨ent.sl, ent.obs⟩ x []).heap (encS ⟨ent.sl, ent.obs⟩ x' []).heap) (some (.inl x'))
 | .ret => decS ⟨ent.sl, ent.outs⟩ s fun y => ckL (lensO (encS ⟨ent.sl, ent.obs⟩ x []).heap (encS ⟨ent.sl, ent.outs⟩ y []).heap) (some (.inr y))
 | _ => none
def backG {X E R : Type} (f : X → Int → E → Option (X ⊕ R)) : List E → X → Option (X ⊕ R)
 | [], x => some (.inl x)
 | e :: r, x => (match f x (r.length : Int) e with
  | none => none
  | some (.inl x') => backG f r x'
  | some (.inr y) => some (.inr y))
def ptrsB : List (Nat × SK) → Bool
 | [] => true
 | (_, .ptr _ _) :: r => ptrsB r
 | (_, .own _ _) :: r => ptrsB r
 | _ :: _ => false
def boxesB : List OB → Bool
 | [] => true
 | .box _ _ :: r => boxesB r
 | .row _ _ :: r => boxesB r
 | .dead :: r => boxesB r
 | _ :: _ => false
def OB.kd : OB → Nat
 | .dead => 0
 | .box _ _ => 1
 | .row _ _ => 2
 | _ => 3
def EntR.fits (ent : EntR) (m : Nat) : Bool := boxesB ent.obs && boxesB ent.outs && noSl ent.sl ent.it && ptrsB ent.sl && Nat.ble m ent.obs.length && decide (ent.outs.map OB.kd = ent.obs.map OB.kd) && noSl ent.inv ent.pi && noSl ent.inv ent.pv && noSl ent.sl ent.pi && noSl ent.sl ent.pv && !decide (ent.pi = ent.pv)
noncomputable def runR {β : Type} (C : Cx) (ent : EntR) (K : Exit → TSt → Option β) (s : TSt) : Option β := match tget s.env ent.it with
 | .val (.clo f (.ref (.slice t'))) xs => (match Zd (.slice ent.t) (.slice t') xs, decide (f = ent.fn) && Z1k s.env ent.inv, asTL [] (slotTys ent.inv) (Z6 s.env ent.inv) with
  | some xs, true, some iv => ck ((xs.length : Int) ≤ 9223372036854775807) (decS ⟨ent.sl, ent.obs⟩ s fun x => ob (backG (ent.step iv) xs.reverse x) fun r => Zae r (fun x => K .normal (encS ⟨ent.sl, ent.obs⟩ x (encI ent.inv iv))) (fun y => K .ret (encS ⟨ent.sl, ent.outs⟩ y (encI ent.inv iv))))
  | _, _, _ => none)
 | _ => none
inductive LE where
 | w (e : Ent)
 | m (e : EntM)
 | r (e : EntR)
instance : Coe Ent LE := ⟨.w⟩
instance : Coe EntM LE := ⟨.m⟩
instance : Coe EntR LE := ⟨.r⟩
noncomputable def exF {β : Type} (C : Cx) (L : List Nat → Option LE) : Code → List Nat → (Exit → TSt → Option β) → TSt → Option β
 | .skip, _, K, s => K .normal s
 | .region id ops drawn, _, K, s => (match drawn with
  | false => Z37 C ops.toList ops.toList (K .normal) s
  | true => (match C.D id with
   | some d => (match regB ops d with
    | true => Zkb C ops.toList d (K .normal) s
    | false => none)
   | none => (match C.DP id with
    | some d => (match regP C.T ops d with
     | true => Zt C ops.toList (Z37 C ops.toList (Z7r ops.toList d.1) (K .normal)) d.2 s
     | false => none)
    | none => none)))
 | .seq a b, p, K, s => exF C L a (0 :: p) (fun e s => match e with
  | .normal => exF C L b (1 :: p) K s
  | e => K e s) s
 | .cond c a b, p, K, s => (match (s.ev c).boo with
  | some t => cb t (exF C L a (0 :: p) K s) (exF C L b (1 :: p) K s)
  | none => none)
 | .block id b, p, K, s => exF C L b (0 :: p) (fun e s => match e with
  | .exit i => (match decide (i = id) with
   | true => K .normal s
   | false => K (.exit i) s)
  | e => K e s) s
 | .exit id, _, K, s => K (.exit id) s
 | .ret, _, K, s => K .ret s
 | .loop b, p, K, s => (match L p with
  | some (.w ent) => runL C ent K s
  | some (.m ent) => runM C ent K s
  | _ => none)
 | .rangeFunc _ _ _ _, p, K, s => (match L p with
  | some (.r ent) => runR C ent K s
  | _ => none)
 | _, _, _, _ => none
end Go.Proofs.YtnehieeplbgaiacDoor.Eng
