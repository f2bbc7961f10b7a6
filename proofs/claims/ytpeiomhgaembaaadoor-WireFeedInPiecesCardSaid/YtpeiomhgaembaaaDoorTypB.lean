/-
  Typed values over the abstract states, second part: an evaluator of code, which the kernel runs, and its soundness. No condition; nothing here is trusted.
-/
import Derived.Test.YtpeiomhgaembaaaDoorTypA
import Derived.Test.YtpeiomhgaembaaaDoorEngB
set_option linter.unusedVariables false
set_option linter.unusedSimpArgs false
namespace Go.Proofs.YtpeiomhgaembaaaDoor.Eng
open Go Go.RowKit
section
variable {P : Program} {C : Cx} {X : Ctx} {σ σ' : Nat → Option Blk} {F F' : Nat → Prop} {a : Act} {w w' : World} {s s' : TSt} {o : Oper}
theorem subAll_le {f : AV → AV} {g : SV → SV} {id : Nat} {ob : TObj} {oa : AObj} (ok : SubOK f g s.heap (s.subAll g id ob).heap) (hob : ObjLe oa (ob.toObj (s.subAll g id ob).heap)) : StLe ⟨envSub f s.toSt.env, (s.toSt.heap.map (AObj.sub f)).set id oa⟩ (s.subAll g id ob).toSt := by
 refine ⟨fun i => ?_, ?_, fun i o o' ho ho' => ?_⟩
 ·simp only [envGet_sub, TSt.toSt, tget_ok, TSt.subAll]
  rw [tget_map (SV.sub g) rfl]
  exact sub_le ok _
 ·simp [TSt.toSt, TSt.subAll, setH_eq]
 ·simp only [TSt.toSt, TSt.subAll, setH_eq, List.getElem?_map] at ho ho'
  by_cases hi : i = id
  ·subst hi
   by_cases hlt : i < s.heap.length
   ·rw [List.getElem?_set_self (by simpa using hlt)] at ho
    rw [List.getElem?_set_self (by simpa using hlt), Option.map_some] at ho'
    cases ho; cases ho'
    simpa only [TSt.subAll, setH_eq] using hob
   ·rw [List.getElem?_eq_none (by simp; omega)] at ho; cases ho
  ·rw [List.getElem?_set_ne (by omega), List.getElem?_map, List.getElem?_map] at ho
   rw [List.getElem?_set_ne (by omega), List.getElem?_map] at ho'
   cases hq : s.heap[i]? with
   | none => rw [hq] at ho; cases ho
   | some q =>
    rw [hq, Option.map_some, Option.map_some] at ho
    rw [hq, Option.map_some, Option.map_some] at ho'
    cases ho; cases ho'
    cases q with
    | box e cs => exact ⟨rfl, by simpa only [TSt.subAll, setH_eq] using subL_le ok cs⟩
    | row e t xs => exact ObjLe.refl _
    | mapo t es => exact ObjLe.refl _
    | dead => trivial
theorem StLe.trans {s1 s2 s3 : St} (h : StLe s1 s2) (k : StLe s2 s3) (heq : ∀ (i : Nat), s1.heap[i]? = s2.heap[i]?) (henv : ∀ i, envGet s1.env i = envGet s2.env i) : StLe s1 s3 :=
 ⟨fun i => by rw [henv]; exact k.1 i, h.2.1.trans k.2.1, fun i o o' h1 h2 => k.2.2 i o o' (by rw [← heq]; exact h1) h2⟩
theorem isSeq_ok {t : Nat} (h : isSeq C t = true) : (∃ e' m' p' z', C.T t = some ⟨.slice e', m', p', z'⟩) ∨ ∃ m' p' z', C.T t = some ⟨.str, m', p', z'⟩ := by
 unfold isSeq at h
 split at h
 ·rename_i ht; exact .inl ⟨_, _, _, _, ht⟩
 ·rename_i ht; exact .inr ⟨_, _, _, ht⟩
 ·cases h
theorem append_ok (hT : TabOK P C.T) (hm : X.m = 0) (hd : dOK X.n o.dst) {t t' : Nat} {y z : Operand} (ho : o.op = .call { callee := .builtin .append, args := #[y, z], argTypes := #[t, t'] }) : Tell2 P X o s (appendT C s t t' (s.ev y) (s.ev z)) := by
 unfold appendT
 split
 ·rename_i e i u he hseq
  obtain ⟨⟨m, p, z', ht⟩, hi, hu, hb⟩ := elemTy_ok he
  have hseq' := isSeq_ok hseq
  have hpos : 0 < i.size := by rw [← hu]; exact u.size_pos
  split
  ·rename_i news hnews
   obtain ⟨c, hz, hc⟩ := newsT_ok hnews
   rw [← TSt.ev_ok] at hz
   split
   ·rename_i hy
    refine ⟨(pureSame_push _).trans (PureSame.subAll _ _ _ _), fun hfit K hK => opWP.wf fun hw => ?_⟩
    have hlen : s.toSt.heap.length = s.heap.length := by simp [TSt.toSt]
    obtain ⟨h1, h2⟩ := toSt_app hw (.row e u []) (fun e' cs h => by cases h)
    have hle : StLe (St.appended { s.toSt with heap := s.toSt.heap ++ [.row e i.size []] } s.toSt.heap.length (.row e i.size (news.map u.cells))) ((s.push (.row e u [])).subAll (killS s.heap.length) s.heap.length (.row e u news)).toSt := by
     have h3 := subAll_le (s := s.push (.row e u [])) (f := killAt s.heap.length) (g := killS s.heap.length) (id := s.heap.length) (ob := .row e u news) (oa := .row e i.size (news.map u.cells)) sub_kill ⟨rfl, hu.symm, rfl, fun j cs ds a b => by rw [a] at b; cases b; exact leL_refl _⟩
     refine ⟨fun j => ?_, ?_, fun j o1 o2 ho1 ho2 => ?_⟩
     ·have := h3.1 j
      simp only [envGet_sub] at this
      simp only [St.appended, envGet_sub, hlen]
      rw [← h2 j]
      exact this
     ·rw [← h3.2.1]; simp [St.appended, TSt.push, TSt.toSt]
     ·refine h3.2.2 j o1 o2 ?_ ho2
      simp only [St.appended, hlen] at ho1
      simp only [TSt.push]
      rw [h1]
      rw [← ho1, ← hu]
      rfl
    refine opT.of (fun K' hK' => op_append_nil ho hT ht hi hseq' (by rw [TSt.ev_ok, hy]; rfl) (by rw [← hu]; exact hz) hc hpos hb (by simpa using hfit) hd hK') hle ?_ hK
    simp only [SV.toAV]
    rw [rowLen_of (e := e) (t := u) (xs := news) (by rw [nth_eq]; simp [TSt.push, TSt.subAll, setH_eq]), hlen, hu, List.length_map]
    exact .refl _
   ·rename_i id sz hy
    split
    ·rename_i e' u' xs0 hq
     split
     ·rename_i xs hxs
      split
      ·rename_i hcc
       obtain ⟨rfl, rfl⟩ := hcc
       obtain ⟨e1, h9⟩ := castD_ok hxs
       injection e1 with e1
       subst e1
       obtain rfl : xs0 = xs := h9
       refine ⟨PureSame.subAll _ _ _ _, fun hfit K hK => ?_⟩
       have hq' : s.toSt.heap[id]? = some (.row e' i.size (List.map u'.cells xs0)) := by rw [TSt.heap_get, hq, ← hu]; rfl
       have hle : StLe (St.appended s.toSt id (.row e' i.size ((List.map u'.cells xs0).drop 0 ++ news.map u'.cells))) (s.subAll (killS id) id (.row e' u' (catL xs0 news))).toSt :=
        subAll_le (f := killAt id) (g := killS id) (id := id) (ob := .row e' u' (catL xs0 news)) (oa := .row e' i.size ((List.map u'.cells xs0).drop 0 ++ news.map u'.cells)) sub_kill (by
         have e2 : (List.map u'.cells xs0).drop 0 ++ news.map u'.cells = (catL xs0 news).map u'.cells := by simp [catL]
         rw [e2, ← hu]; exact ObjLe.refl _)
       refine opT.of (fun K' hK' => op_append ho hT ht hi hseq' (by rw [TSt.ev_ok, hy]; simp only [SV.toAV]; rw [rowLen_of hq, hu]) hq' (by rw [Nat.zero_add, mapLen (u := u') xs0]) (by rw [← hu]; exact hz) hc hpos hb (by simpa using hfit) (by omega) hd hK') hle ?_ hK
       simp only [SV.toAV]
       have hid : id < s.heap.length := by rw [nth_eq] at hq; exact (List.getElem?_eq_some_iff.1 hq).1
       rw [rowLen_of (e := e') (t := u') (xs := catL xs0 news) (by rw [nth_eq]; simp [TSt.subAll, setH_eq, hid]), hu]
       have e3 : (catL xs0 news).length = List.length xs0 + (news.map u'.cells).length := by simp [catL]
       rw [e3]
       exact .refl _
      ·trivial
     ·trivial
    ·trivial
   ·rename_i id sz off len hy
    split
    ·rename_i e' u' xs0 hq
     split
     ·rename_i xs hxs
      split
      ·rename_i hcc
       obtain ⟨rfl, rfl⟩ := hcc
       obtain ⟨e1, h9⟩ := castD_ok hxs
       injection e1 with e1
       subst e1
       obtain rfl : xs0 = xs := h9
       refine ⟨PureSame.subAll _ _ _ _, fun hfit K hK => ?_⟩
       have hq' : s.toSt.heap[id]? = some (.row e' i.size (List.map u'.cells xs0)) := by rw [TSt.heap_get, hq, ← hu]; rfl
       have hle : StLe (St.appended s.toSt id (.row e' i.size ((List.map u'.cells xs0).drop off ++ news.map u'.cells))) (s.subAll (killS id) id (.row e' u' (catL (List.drop off xs0) news))).toSt :=
        subAll_le (f := killAt id) (g := killS id) (id := id) (ob := .row e' u' (catL (List.drop off xs0) news)) (oa := .row e' i.size ((List.map u'.cells xs0).drop off ++ news.map u'.cells)) sub_kill (by
         have e2 : (List.map u'.cells xs0).drop off ++ news.map u'.cells = (catL (List.drop off xs0) news).map u'.cells := by simp only [catL, List.map_append]; congr 1; exact (List.map_drop ..).symm
         rw [e2, ← hu]; exact ObjLe.refl _)
       refine opT.of (fun K' hK' => op_append ho hT ht hi hseq' (by rw [TSt.ev_ok, hy]; simp only [SV.toAV]; rw [hu]) hq' (by rw [mapLen (u := u') xs0]; exact hfit.1) (by rw [← hu]; exact hz) hc hpos hb (by simpa using hfit.2) (by omega) hd hK') hle ?_ hK
       simp only [SV.toAV]
       have hid : id < s.heap.length := by rw [nth_eq] at hq; exact (List.getElem?_eq_some_iff.1 hq).1
       rw [rowLen_of (e := e') (t := u') (xs := catL (List.drop off xs0) news) (by rw [nth_eq]; simp [TSt.subAll, setH_eq, hid]), hu]
       have e3 : (catL (List.drop off xs0) news).length = len + (news.map u'.cells).length := by
        have e4 : (List.drop off xs0).length = List.length xs0 - off := List.length_drop ..
        simp only [catL, List.length_append, List.length_map]
        rw [e4]; omega
       rw [e3]
       exact .refl _
      ·trivial
     ·trivial
    ·trivial
   ·trivial
  ·trivial
 ·rename_i e i u he _
  obtain ⟨⟨m, p, z', ht⟩, hi, hu, hb⟩ := elemTy_ok he
  split
  ·rename_i k q ht' hny hn
   split
   ·rename_i hz
    refine ⟨pureSame_push _, fun hc K hK => opWP.wf fun hw => ?_⟩
    have hlen : s.toSt.heap.length = s.heap.length := by simp [TSt.toSt]
    have hzv : s.toSt.ev z = .v (.int k q) := by rw [TSt.ev_ok, num_av hn]
    have hy : s.toSt.ev y = .v (.slice none 0 0) := by
     unfold isNilS at hny
     split at hny
     ·rename_i hx2; rw [TSt.ev_ok, hx2]; rfl
     ·cases hny
    refine (opTG.of (fun K' hK' => op_appendZeros ho hT ht hi ht' hy hzv (by rw [← hu]; exact u.size_pos) hb hc.1 hc.2 hd hK') (pushLe hw (ob := .row e u (List.replicate q.toNat u.d)) (fun e' cs h => by cases h) ⟨rfl, hu.symm, by simp, fun j cs ds hj hj' => ?_⟩) ?_ hK).wp
    ·rw [List.getElem?_replicate] at hj
     rw [List.map_replicate, List.getElem?_replicate] at hj'
     split at hj
     ·rename_i hlt
      rw [if_pos hlt] at hj'
      cases hj; cases hj'
      exact zeroB_ok u _ hz
     ·cases hj
    ·simp only [SV.toAV]
     rw [rowLen_of (e := e) (t := u) (xs := List.replicate q.toNat u.d) (by rw [nth_eq]; simp [TSt.push]), hlen, hu, List.length_replicate]
     exact .refl _
   ·trivial
  ·trivial
 ·trivial
end
end Go.Proofs.YtpeiomhgaembaaaDoor.Eng
set_option linter.unusedVariables false
set_option linter.unusedSimpArgs false
namespace Go.Proofs.YtpeiomhgaembaaaDoor.Eng
open Go Go.RowKit
def FnOK (P : Program) (f : Nat) (fn : TFn) : Prop := Enters P f ∧ ∀ x r, fn.run x = some r → FPure P f (avL fn.args x) (retAV (avL fn.res r))
def ownAV (n : Nat) : (t : Ty) → Option Nat → t.den → AV
 | .slice t, some _, xs => .own n t.size 0 (List.length xs)
 | t, _, x => t.av x
def avLO (n : Nat) : (ts : List Ty) → List (Option Nat) → denL ts → List AV
 | [], _, _ => []
 | [t], os, x => [ownAV n t (ownHd os) x]
 | t :: u :: r, os, x => ownAV n t (ownHd os) x.1 :: avLO (n + (ownObj t (ownHd os) x.1).length) (u :: r) os.tail x.2
def FnOKo (P : Program) (f : Nat) (fn : TFo) : Prop := Enters P f ∧ ∀ x r, fn.run x = some r → FSpec P f [] (avL fn.args x) (fun ret h => ret = retAV (avLO 0 fn.res fn.own r) ∧ h = (ownObjs fn.res fn.own r).map (TObj.toObj []))
def mapB (P : Program) (t e : Nat) : Bool := match P.underlying t with
 | some (.map kt et) => decide (et = e) && (match P.underlying kt with | some .string => true | _ => false)
 | _ => false
structure CxOK (P : Program) (C : Cx) : Prop where
 T : TabOK P C.T
 B : ∀ f fn, C.B f = some fn → FnOK P f fn
 BO : ∀ f fn, C.BO f = some fn → FnOKo P f fn
 mixed : P.follows .mixedOrders = true
 eqs : ∀ t, memN C.EQ t = true → eqB P t = true
 mp : ∀ t e, mapGet C.MP t = some e → mapB P t e = true
section
variable {P : Program} {C : Cx} {X : Ctx} {σ σ' : Nat → Option Blk} {F F' : Nat → Prop} {a : Act} {w w' : World} {s s' : TSt} {o : Oper}
theorem FSpec.leArgs {f : Nat} {h0 : List AObj} {args args' : List AV} {post : AV → List AObj → Prop} (h : FSpec P f h0 args' post) (hl : AV.leL args args') : FSpec P f h0 args post :=
 fun σ F w vs h1 h2 h3 => h σ F w vs h1 ((AV.leL_len hl).symm.trans h2) (fun j x u hx hu => by
  have hj : j < args.length := by rw [AV.leL_len hl]; exact (List.getElem?_eq_some_iff.1 hx).1
  exact RepV.le (AV.leL_get hl j _ x (List.getElem?_eq_getElem hj) hx) (h3 j _ u (List.getElem?_eq_getElem hj) hu))
theorem op_pureG {s : St} {K : St → Prop} {fop : Operand} {ar : Array Operand} {ts : Array Nat} (ho : o.op = .call { callee := .value fop, args := ar, argTypes := ts }) {f : Nat} (hf : s.ev fop = .fn f []) (hE : Enters P f) {R : AV}
  (spec : FSpec P f [] ((ar.toList.map s.ev).map (AV.sub (renAt []))) (fun r h => r = R ∧ h = [])) (hd : dOK X.n o.dst) (hK : K (St.put s o.dst (R.sub (backAt [] s.heap.length)))) : opWPG P X o K s := by
 rintro Qc next a w hn ⟨σ, F, hr⟩
 obtain ⟨us, hfv, hul, hur⟩ := RepV.fnv (hf ▸ hr.ev fop)
 obtain rfl : us = [] := List.eq_nil_of_length_eq_zero hul.symm
 let vs : List Value := ar.toList.map a.eval
 have hl : ((ar.toList.map s.ev).map (AV.sub (renAt []))).length = vs.length := by simp [vs]
 have hrep : ∀ (j : Nat) (x : AV) (u : Value), ((ar.toList.map s.ev).map (AV.sub (renAt [])))[j]? = some x → vs[j]? = some u → RepV (selσ [] σ) F w x u := fun j x u hx hu => by
  rw [List.getElem?_map, Option.map_eq_some_iff] at hx
  obtain ⟨y, hy, rfl⟩ := hx
  refine RepV.sel ?_
  rw [List.getElem?_map, Option.map_eq_some_iff] at hy
  obtain ⟨q, hq, rfl⟩ := hy
  simp only [vs] at hu
  rw [List.getElem?_map, hq] at hu
  injection hu with hu
  rw [← hu]
  exact hr.ev _
 have hcalls := spec (selσ [] σ) F w vs (hr.heap.sel List.nodup_nil (by simp)) hl hrep
 have hrun : (execOp a.eval o).run P w = .ok (.enter f vs.toArray) w := by
  have hva : ar.map a.eval ++ #[] = vs.toArray := by
   apply Array.ext'
   simp [vs]
  simp [execOp, ho, resolve, hfv, Deferred.ofValue, invoke, hE vs.toArray w]
  simpa using hva ▸ hE vs.toArray w
 unfold Oper.wp
 rw [hrun]
 show Calls P f vs.toArray w _
 refine hcalls.mono ?_
 rintro e w' ⟨ret, h', σ', F', rv, ⟨rfl, rfl⟩, rfl, h1, h2, h3, h4, h5, h6, h7⟩
 obtain ⟨h8, h9⟩ := hr.back (keep := []) List.nodup_nil (by simp) h1 h2 h3 h4 h5 (fun id hid => absurd hid (Nat.not_lt_zero _)) (Nat.zero_le _) (fun k hk => absurd hk (Nat.not_lt_zero _))
 rw [back_nil] at h8
 refine hn _ _ _ hK ⟨_, _, h8.put hd h9⟩ ⟨h3.size, fun b hb => h3.block b hb ?_⟩
 rintro ⟨id, k, h, _⟩
 simp [selσ] at h
theorem op_newG {s : St} {K : St → Prop} {fop : Operand} {ar : Array Operand} {ts : Array Nat} (ho : o.op = .call { callee := .value fop, args := ar, argTypes := ts }) {f : Nat} (hf : s.ev fop = .fn f []) (hE : Enters P f) {R : AV} {objs : List AObj}
  (spec : FSpec P f [] ((ar.toList.map s.ev).map (AV.sub (renAt []))) (fun r h => r = R ∧ h = objs)) (hd : dOK X.n o.dst) (hK : K (St.put (s.back [] objs) o.dst (R.sub (backAt [] s.heap.length)))) : opWPG P X o K s := by
 rintro Qc next a w hn ⟨σ, F, hr⟩
 obtain ⟨us, hfv, hul, hur⟩ := RepV.fnv (hf ▸ hr.ev fop)
 obtain rfl : us = [] := List.eq_nil_of_length_eq_zero hul.symm
 let vs : List Value := ar.toList.map a.eval
 have hl : ((ar.toList.map s.ev).map (AV.sub (renAt []))).length = vs.length := by simp [vs]
 have hrep : ∀ (j : Nat) (x : AV) (u : Value), ((ar.toList.map s.ev).map (AV.sub (renAt [])))[j]? = some x → vs[j]? = some u → RepV (selσ [] σ) F w x u := fun j x u hx hu => by
  rw [List.getElem?_map, Option.map_eq_some_iff] at hx
  obtain ⟨y, hy, rfl⟩ := hx
  refine RepV.sel ?_
  rw [List.getElem?_map, Option.map_eq_some_iff] at hy
  obtain ⟨q, hq, rfl⟩ := hy
  simp only [vs] at hu
  rw [List.getElem?_map, hq] at hu
  injection hu with hu
  rw [← hu]
  exact hr.ev _
 have hcalls := spec (selσ [] σ) F w vs (hr.heap.sel List.nodup_nil (by simp)) hl hrep
 have hrun : (execOp a.eval o).run P w = .ok (.enter f vs.toArray) w := by
  have hva : ar.map a.eval ++ #[] = vs.toArray := by
   apply Array.ext'
   simp [vs]
  simp [execOp, ho, resolve, hfv, Deferred.ofValue, invoke, hE vs.toArray w]
  simpa using hva ▸ hE vs.toArray w
 unfold Oper.wp
 rw [hrun]
 show Calls P f vs.toArray w _
 refine hcalls.mono ?_
 rintro e w' ⟨ret, h', σ', F', rv, ⟨rfl, rfl⟩, rfl, h1, h2, h3, h4, h5, h6, h7⟩
 obtain ⟨h8, h9⟩ := hr.back (keep := []) List.nodup_nil (by simp) h1 h2 h3 h4 h5 (fun id hid => absurd hid (Nat.not_lt_zero _)) (Nat.zero_le _) (fun k hk => absurd hk (Nat.not_lt_zero _))
 refine hn _ _ _ hK ⟨_, _, h8.put hd h9⟩ ⟨h3.size, fun b hb => h3.block b hb ?_⟩
 rintro ⟨id, k, h, _⟩
 simp [selσ] at h
theorem ownObj_row {t : Ty} {o : Option Nat} {x : t.den} : ∀ ob ∈ ownObj t o x, ∃ e u, ∃ xs : List u.den, ob = .row e u xs := by
 intro ob h
 unfold ownObj at h
 split at h
 ·simp at h; exact ⟨_, _, _, h⟩
 ·cases h
theorem ownObjs_row : ∀ (ts : List Ty) (os : List (Option Nat)) (x : denL ts), ∀ ob ∈ ownObjs ts os x, ∃ e u, ∃ xs : List u.den, ob = .row e u xs
 | [], _, _, ob, h => by cases h
 | [t], os, x, ob, h => ownObj_row ob h
 | t :: u :: r, os, x, ob, h => by
  rcases List.mem_append.1 h with h | h
  ·exact ownObj_row ob h
  ·exact ownObjs_row (u :: r) os.tail x.2 ob h
theorem row_sub {ob : TObj} (h : ∃ e u, ∃ xs : List u.den, ob = .row e u xs) (f : AV → AV) (H H' : List TObj) : (ob.toObj H).sub f = ob.toObj H' := by
 obtain ⟨e, u, xs, rfl⟩ := h
 rfl
theorem avO_back (m L : Nat) (t : Ty) (o : Option Nat) (x : t.den) : (ownAV m t o x).sub (backAt [] L) = ownAV (L + m) t o x := by
 cases t with
 | slice u =>
  cases o with
  | none => exact av_sub _ (.slice u) x
  | some e => simp [ownAV, AV.sub, backAt, backId]
 | int k => exact av_sub _ (.int k) x
 | byte => exact av_sub _ .byte x
 | bool => exact av_sub _ .bool x
 | str => exact av_sub _ .str x
 | one u => exact av_sub _ (.one u) x
 | pair a b => exact av_sub _ (.pair a b) x
 | ptr u => exact av_sub _ (.ptr u) x
 | nilS => exact av_sub _ .nilS x
 | fnc f => exact av_sub _ (.fnc f) x
theorem avLO_back {L : Nat} : ∀ (ts : List Ty) (os : List (Option Nat)) (x : denL ts) (m : Nat), (avLO m ts os x).map (AV.sub (backAt [] L)) = avLO (L + m) ts os x
 | [], _, _, _ => rfl
 | [t], os, x, m => congrArg (fun z => [z]) (avO_back m L t (ownHd os) x)
 | t :: u :: r, os, x, m => by
  simp only [avLO, List.map_cons]
  rw [avO_back, avLO_back (u :: r) os.tail x.2, Nat.add_assoc]
theorem ownSV_av {H : List TObj} (n : Nat) (t : Ty) (o : Option Nat) (x : t.den) (h : ∀ ob, (ownObj t o x)[0]? = some ob → H[n]? = some ob) : (ownSV n t o x).toAV H = ownAV n t o x := by
 cases t with
 | slice u =>
  cases o with
  | none => rfl
  | some e =>
   have := h (.row e u x) rfl
   simp only [SV.toAV, ownSV, ownAV]
   rw [rowLen_of (by rw [nth_eq]; exact this)]
 | int k => rfl
 | byte => rfl
 | bool => rfl
 | str => rfl
 | one u => rfl
 | pair a b => rfl
 | ptr u => rfl
 | nilS => rfl
 | fnc f => rfl
theorem ownSVs_av {H : List TObj} : ∀ (ts : List Ty) (os : List (Option Nat)) (x : denL ts) (n : Nat), (∀ j ob, (ownObjs ts os x)[j]? = some ob → H[n + j]? = some ob) → SV.toAVL H (ownSVs n ts os x) = avLO n ts os x
 | [], _, _, _, _ => rfl
 | [t], os, x, n, h => congrArg (fun z => [z]) (ownSV_av n t (ownHd os) x (fun ob hob => h 0 ob hob))
 | t :: u :: r, os, x, n, h => by
  simp only [ownSVs, avLO, SV.toAVL]
  rw [ownSV_av n t (ownHd os) x.1 (fun ob hob => h 0 ob (by
   simp only [ownObjs]
   rw [List.getElem?_append_left (List.getElem?_eq_some_iff.1 hob).1]; exact hob)), ownSVs_av (u :: r) os.tail x.2 _ (fun j ob hob => by
   rw [Nat.add_assoc]
   refine h _ ob ?_
   simp only [ownObjs]
   rw [List.getElem?_append_right (Nat.le_add_right _ _), Nat.add_sub_cancel_left]; exact hob)]
theorem retAV_subM (f : AV → AV) (l : List AV) : (retAV l).sub f = retAV (l.map (AV.sub f)) := by
 cases l with
 | nil => rfl
 | cons x r =>
  cases r with
  | nil => rfl
  | cons y r => simp only [retAV, List.map_cons, AV.sub, AV.subL_eq]
theorem svRetO_av {H : List TObj} {n : Nat} (ts : List Ty) (os : List (Option Nat)) (x : denL ts) (h : ∀ j ob, (ownObjs ts os x)[j]? = some ob → H[n + j]? = some ob) : (svRetO n ts os x).toAV H = retAV (avLO n ts os x) := by
 have e := ownSVs_av ts os x n h
 unfold svRetO
 cases hs : ownSVs n ts os x with
 | nil => rw [hs] at e; rw [← e]; rfl
 | cons x r =>
  rw [hs] at e
  cases r with
  | nil => rw [← e]; rfl
  | cons x' r => rw [← e]; rfl
theorem pushL_le (hw : s.wf) {l : List TObj} (hl : ∀ ob ∈ l, ∃ e u, ∃ xs : List u.den, ob = .row e u xs) : StLe { s.toSt with heap := s.toSt.heap ++ l.map (TObj.toObj []) } (s.pushL l).toSt := by
 have e1 : (s.pushL l).toSt.heap = s.toSt.heap ++ l.map (TObj.toObj []) := by
  simp only [TSt.toSt, TSt.pushL, List.map_append]
  congr 1
  ·refine List.map_congr_left fun o ho => ?_
   cases o with
   | box e cs =>
    obtain ⟨i, hi⟩ := List.getElem?_of_mem ho
    simp only [TObj.toObj]; rw [toAVL_grow cs (hw.2 i e cs hi)]
   | _ => rfl
  ·refine List.map_congr_left fun o ho => ?_
   obtain ⟨e, u, xs, rfl⟩ := hl o ho
   rfl
 refine ⟨fun i => ?_, e1.symm ▸ rfl, fun i o o' ho ho' => ?_⟩
 ·simp only [TSt.toSt, tget_ok, TSt.pushL]
  rw [toAV_grow _ (hw.1 i)]; exact .refl _
 ·rw [e1] at ho'
  simp only at ho
  rw [ho] at ho'; cases ho'; exact .refl _
theorem asTL_ok {f : AV → AV} {h H : List TObj} (hL : Lends f h H) : ∀ (ts : List Ty) (xs : List SV) (y : denL ts), asTL h ts xs = some y → AV.leL ((xs.map (SV.toAV H)).map (AV.sub f)) (avL ts y) := by
 intro ts
 induction ts with
 | nil =>
  intro xs y hy
  cases xs with
  | nil => exact trivial
  | cons x l => cases hy
 | cons t r ih =>
  intro xs y hy
  cases xs with
  | nil => cases hy
  | cons x l =>
   simp only [asTL] at hy
   cases hp : asT h t x with
   | none => rw [hp] at hy; cases hy
   | some p =>
    rw [hp] at hy
    simp only at hy
    cases hq : asTL h r l with
    | none => rw [hq] at hy; cases r <;> cases hy
    | some q =>
     rw [hq] at hy
     have h2 := ih l q hq
     cases r with
     | nil =>
      cases hy
      exact ⟨asT_ok hL hp, h2⟩
     | cons u r =>
      cases hy
      exact ⟨asT_ok hL hp, h2⟩
theorem svL_av {h : List TObj} : ∀ (ts : List Ty) (y : denL ts), SV.toAVL h (svL ts y) = avL ts y
 | [], _ => rfl
 | [t], _ => rfl
 | t :: u :: r, y => by simp only [svL, SV.toAVL, avL]; rw [svL_av (u :: r) y.2]; rfl
theorem svRet_av {h : List TObj} (ts : List Ty) (y : denL ts) : (svRet ts y).toAV h = retAV (avL ts y) := by
 have e := svL_av (h := h) ts y
 unfold svRet
 cases hs : svL ts y with
 | nil => rw [hs] at e; rw [← e]; rfl
 | cons x r =>
  rw [hs] at e
  cases r with
  | nil => rw [← e]; rfl
  | cons x' r => rw [← e]; rfl
theorem plainL_of {l : List AV} (h : ∀ x ∈ l, x.plain = true) : AV.plainL l = true := by
 induction l with
 | nil => rfl
 | cons x r ih => simp only [AV.plainL, h x (List.mem_cons_self ..), ih (fun y hy => h y (List.mem_cons_of_mem _ hy))]; rfl
theorem Ty.plain_cells : ∀ (t : Ty) (x : t.den), t.plain = true → ∀ y ∈ t.cells x, y.plain = true
 | .one t, x, h => t.plain_cells x h
 | .pair a b, x, h => fun y hy => by
  simp only [Ty.plain, Bool.and_eq_true] at h
  rcases List.mem_append.1 hy with h1 | h1
  ·exact a.plain_cells _ h.1 y h1
  ·exact b.plain_cells _ h.2 y h1
 | .int _, _, _ | .byte, _, _ | .bool, _, _ | .str, _, _ => fun y hy => by simp [Ty.cells] at hy; subst hy; rfl
theorem Ty.plain_av {t : Ty} (x : t.den) (h : t.plain = true) : (t.av x).plain = true := by
 cases ha : t.isAgg with
 | true => rw [Ty.av_agg ha]; exact plainL_of (t.plain_cells x h)
 | false => exact t.plain_cells x h _ (by rw [Ty.cells_leaf ha]; simp)
theorem avL_plain : ∀ (ts : List Ty) (y : denL ts), allPlain ts = true → ∀ x ∈ avL ts y, x.plain = true
 | [], _, _ => fun x hx => by simp [avL] at hx
 | [t], y, h => fun x hx => by
  simp [avL] at hx
  subst hx
  simp only [allPlain, Bool.and_true] at h
  exact t.plain_av y h
 | t :: u :: r, y, h => fun x hx => by
  simp only [allPlain, Bool.and_eq_true] at h
  rcases List.mem_cons.1 hx with rfl | hx
  ·exact t.plain_av _ h.1
  ·exact avL_plain (u :: r) y.2 (by simp only [allPlain, Bool.and_eq_true]; exact h.2) x hx
theorem retAV_plain {l : List AV} (h : ∀ x ∈ l, x.plain = true) : (retAV l).plain = true := by
 unfold retAV
 split
 ·exact h _ (by simp)
 ·exact plainL_of h
theorem avL_sub (f : AV → AV) : ∀ (ts : List Ty) (y : denL ts), (avL ts y).map (AV.sub f) = avL ts y
 | [], _ => rfl
 | [t], y => congrArg (fun z => [z]) (av_sub f t y)
 | t :: u :: r, y => by simp only [avL, List.map_cons]; rw [av_sub, avL_sub f (u :: r) y.2]
theorem retAV_sub (f : AV → AV) (ts : List Ty) (y : denL ts) : (retAV (avL ts y)).sub f = retAV (avL ts y) := by
 have h := avL_sub f ts y
 unfold retAV
 split
 ·rename_i x hx
  rw [hx] at h
  simpa using h
 ·rw [AV.sub, AV.subL_eq, h]
theorem evs_av (s : TSt) (l : List Operand) : l.map s.toSt.ev = (l.map s.ev).map (SV.toAV s.heap) := by
 rw [List.map_map]; exact List.map_congr_left fun x _ => TSt.ev_ok s x
theorem call_ok (hC : CxOK P C) (hd : dOK X.n o.dst) {fop : Operand} {ar : Array Operand} {ts : Array Nat} (ho : o.op = .call { callee := .value fop, args := ar, argTypes := ts }) : TellC P X o s (callT C s fop ar.toList) := by
 unfold callT
 split
 ·rename_i g caps hf
  split
  ·rename_i fn hfn
   obtain ⟨hE, hspec⟩ := hC.B g fn hfn
   split
   ·rename_i hpl
    split
    ·rename_i x hx
     refine ⟨.refl _, fun y hy K hK => ?_⟩
     have h1 := asTL_ok (lends_borrow s) _ _ _ hx
     have h2 := hspec x y hy
     refine op_lent (R := retAV (avL fn.res y)) ho (f := g) (caps := SV.toAVL s.heap caps) (by rw [TSt.ev_ok, hf]; rfl) hE ((h2 : FSpec P g [] _ _).leArgs ?_) (retAV_plain (avL_plain _ _ hpl)) hd ⟨s.put o.dst (svRet fn.res y), ?_, hK⟩
     ·rw [List.map_append] at h1
      rw [evs_av, SV.toAVL_eq]
      simpa using h1
     ·rw [TSt.put_ok, svRet_av]; exact .refl _ _
    ·trivial
   ·split
    ·generalize hs1 : frzFor C.TY s (ar.toList.map s.ev) = s1
     have hfrz := frzFor_ok (X := X) (C := C) (s := s) (ar.toList.map s.ev)
     rw [hs1] at hfrz
     simp only
     split
     ·rename_i g' x hf' hx
      split
      ·rename_i hg
       subst hg
       refine ⟨hfrz.2, fun y hy K hK => opWPG.from hfrz.1 ?_⟩
       have h1 := asTL_ok (Lends.none (renAt []) s1.heap) _ _ _ hx
       have h2 := hspec x y hy
       refine op_pureG (R := retAV (avL fn.res y)) ho (f := g') (by rw [TSt.ev_ok, hf']; rfl) hE ((h2 : FSpec P g' [] _ _).leArgs ?_) hd ⟨s1.put o.dst (svRet fn.res y), ?_, hK⟩
       ·rw [evs_av]; exact h1
       ·rw [TSt.put_ok, svRet_av, retAV_sub]; exact .refl _ _
      ·trivial
     ·trivial
    ·trivial
  ·split
   ·rename_i fn hfn
    obtain ⟨hE, hspec⟩ := hC.BO g fn hfn
    generalize hs1 : frzFor C.TY s (ar.toList.map s.ev) = s1
    have hfrz := frzFor_ok (X := X) (C := C) (s := s) (ar.toList.map s.ev)
    rw [hs1] at hfrz
    simp only
    split
    ·rename_i g' x hf' hx
     split
     ·rename_i hg
      subst hg
      refine ⟨hfrz.2, fun y hy K hK => opWPG.from hfrz.1 ?_⟩
      have h1 := asTL_ok (Lends.none (renAt []) s1.heap) _ _ _ hx
      have h2 := hspec x y hy
      intro Qc next a w hn hr
      have hw : s1.wf := by obtain ⟨σ, F, hr'⟩ := hr; exact wf_of hr'
      have hlen : s1.toSt.heap.length = s1.heap.length := by simp [TSt.toSt]
      refine op_newG (R := retAV (avLO 0 fn.res fn.own y)) (objs := (ownObjs fn.res fn.own y).map (TObj.toObj [])) ho (f := g') (by rw [TSt.ev_ok, hf']; rfl) hE ((h2 : FSpec P g' [] _ _).leArgs ?_) hd ⟨(s1.pushL (ownObjs fn.res fn.own y)).put o.dst (svRetO s1.heap.length fn.res fn.own y), ?_, hK⟩ Qc next a w hn hr
      ·rw [evs_av]; exact h1
      ·rw [TSt.put_ok]
       refine (StLe.put (s := s1.toSt.back [] ((ownObjs fn.res fn.own y).map (TObj.toObj []))) ?_ (AV.le_of_eq ?_) _).imp
       ·have h3 := pushL_le hw (ownObjs_row fn.res fn.own y)
        have e : s1.toSt.back [] ((ownObjs fn.res fn.own y).map (TObj.toObj [])) = { s1.toSt with heap := s1.toSt.heap ++ (ownObjs fn.res fn.own y).map (TObj.toObj []) } := by
         simp only [St.back, backHeap, idx, List.drop_zero, List.length_nil, List.map_map]
         congr 1
         congr 1
         ·apply List.ext_getElem?
          intro i
          simp
         ·refine List.map_congr_left fun ob hob => ?_
          exact row_sub (ownObjs_row _ _ _ ob hob) _ _ _
        rw [e]; exact h3
       ·rw [retAV_subM, avLO_back, hlen, Nat.add_zero]
        rw [svRetO_av (H := (s1.pushL (ownObjs fn.res fn.own y)).heap) fn.res fn.own y (fun j ob hob => by
         simp only [TSt.pushL]
         rw [List.getElem?_append_right (Nat.le_add_right _ _), Nat.add_sub_cancel_left]; exact hob)]
     ·trivial
    ·trivial
   ·trivial
 ·trivial
theorem nil_ok (hT : TabOK P C.T) (hd : dOK X.n o.dst) {op : BinOp} {t t' : Nat} {y z : Operand} (ho : o.op = .binOp op t y z t') {r : R2} (hr : nilT C s op t (s.ev y) (s.ev z) = some r) : Tell2 P X o s r := by
 unfold nilT at hr
 split at hr
 ·rename_i e m p zv b ht hz hb
  have hop : op = .eql ∨ op = .neq := by
   unfold eqOp at hb
   split at hb
   ·exact .inl ‹_›
   ·split at hb
    ·exact .inr ‹_›
    ·cases hb
  have hbv : decide (op = .neq) = b := by
   unfold eqOp at hb
   split at hb
   ·rename_i h; subst h; cases hb; rfl
   ·split at hb
    ·rename_i h; subst h; cases hb; rfl
    ·cases hb
  have key : ∀ {c1 c2 : Prop} {c : Prop}, nilness (s.toSt.ev y) = some (c1, c2) → (c1 → c) → (c2 → ¬ c) → Tell2 P X o s (.nq c b) := by
   intro c1 c2 c hn h1 h2 K hK1 hK2
   refine op_eqnil hop ho hT ht (by rw [TSt.ev_ok, hz]; rfl) hn hd (fun hc => ⟨_, ?_, hK1 (h1 hc)⟩) (fun hc b' => ⟨_, ?_, hK2 (h2 hc) b'⟩)
   ·rw [TSt.put_ok, hbv]; exact .refl _ _
   ·rw [TSt.put_ok]; exact .refl _ _
  split at hr
  ·rename_i u xs hy
   cases hr
   refine key (c1 := List.map u.cells xs ≠ []) (c2 := List.map u.cells xs = []) (by rw [TSt.ev_ok, hy]; rfl) (fun h h' => h ?_) (fun h h' => h' ?_)
   ·exact (congrArg (List.map u.cells) (h' : (xs : List u.den) = [])).trans rfl
   ·exact List.map_eq_nil_iff.1 h
  ·rename_i id sz hy
   split at hr
   ·rename_i e' u xs hq
    cases hr
    refine key (c1 := rowLen s.heap id ≠ 0) (c2 := rowLen s.heap id = 0) (by rw [TSt.ev_ok, hy]; rfl) (fun h h' => h ?_) (fun h h' => h' ?_)
    ·rw [rowLen_of hq, h']; rfl
    ·rw [rowLen_of hq] at h; exact List.eq_nil_of_length_eq_zero h
   ·cases hr; trivial
  ·rename_i id sz off len hy
   cases hr
   exact key (c1 := len ≠ 0) (c2 := len = 0) (by rw [TSt.ev_ok, hy]; rfl) (fun h => h) (fun h h' => h' h)
  ·cases hr; trivial
 ·cases hr
theorem eqOneS_ok {h : List TObj} {T : Tab} {ft : Nat} {x y : SV} {q : Bool} (he : eqOneS T ft x y = some q) : eqOne T ft (x.toAV h) (y.toAV h) = some q := by
 unfold eqOneS at he
 split at he
 ·rename_i ht
  split at he
  ·rename_i k a k' b hx hy
   split at he
   ·rename_i hk
    cases he
    simp only [num_av hx, num_av hy, eqOne, ht, hk, if_true]
    rfl
   ·cases he
  ·cases he
 ·rename_i ht
  split at he
  ·rename_i a b hx hy
   cases he
   simp only [boo_av hx, boo_av hy, eqOne, ht]
   rfl
  ·cases he
 ·rename_i ht
  split at he
  ·rename_i a b hx hy
   cases he
   simp only [stg_av hx, stg_av hy, eqOne, ht]
   rfl
  ·cases he
 ·cases he
theorem eqCellsS_ok {h : List TObj} {T : Tab} : ∀ (fs : List (Nat × Nat)) (xs ys : List SV) (q : Bool), eqCellsS T fs xs ys = some q → eqCells T fs (SV.toAVL h xs) (SV.toAVL h ys) = some q
 | [], xs, ys, q, he => by simp only [eqCellsS] at he; cases he; rfl
 | (off, ft) :: r, xs, ys, q, he => by
  simp only [eqCellsS] at he
  split at he
  ·rename_i x y hx hy
   split at he
   ·rename_i p q' hp hq
    cases he
    have h1 := eqOneS_ok (h := h) hp
    have h2 := eqCellsS_ok (h := h) r xs ys q' hq
    simp only [eqCells, toAVL_nth, hx, hy, Option.map_some, Option.getD_some, h1, h2]
   ·cases he
  ·cases he
theorem aggS_ok {h : List TObj} {x : SV} {xs : List SV} (he : aggS x = some xs) : x.toAV h = .agg (SV.toAVL h xs) := by
 unfold aggS at he
 split at he
 ·cases he; rfl
 ·rename_i t y
  split at he
  ·rename_i ht
   cases he
   rw [partsT_ok]
   exact Ty.av_agg ht y
  ·cases he
 ·cases he
theorem eqs_ok (hC : CxOK P C) (hd : dOK X.n o.dst) {op : BinOp} {t t' : Nat} {y z : Operand} (ho : o.op = .binOp op t y z t') {r : R2} (hr : eqsT C s op t (s.ev y) (s.ev z) = some r) : Tell2 P X o s r := by
 unfold eqsT at hr
 split at hr
 ·rename_i fs m p zv xs ys b ht hx hy hb
  split at hr
  ·rename_i q hq hE
   cases hr
   refine ⟨.refl _, fun K hK => ?_⟩
   refine opT.of (s1 := s) (so := s.toSt) (fun K' hK' => op_eqs hC.T hb ho ht (hC.eqs t hE) (by rw [TSt.ev_ok, aggS_ok hx]) (by rw [TSt.ev_ok, aggS_ok hy]) (eqCellsS_ok (h := s.heap) _ _ _ _ hq) hd hK') (.refl _) (AV.le_of_eq ?_) hK
   cases b <;> cases q <;> rfl
  ·cases hr; trivial
 ·cases hr
theorem zeroVB_ok {u : Ty} {z : Value} (h : zeroVB u z = true) : u.scal = true ∧ z = u.vl u.d := by
 unfold zeroVB at h
 split at h
 ·split at h
  ·simp only [Bool.and_eq_true, decide_eq_true_eq] at h
   obtain ⟨rfl, rfl⟩ := h
   exact ⟨rfl, rfl⟩
  ·cases h
 ·split at h
  ·obtain rfl := of_decide_eq_true h
   exact ⟨rfl, rfl⟩
  ·cases h
 ·split at h
  ·rename_i b
   cases b with
   | true => cases h
   | false => exact ⟨rfl, rfl⟩
  ·cases h
 ·split at h
  ·rename_i b
   have h0 := of_decide_eq_true h
   refine ⟨rfl, ?_⟩
   show Value.string b = .string ByteArray.empty
   congr 1
   apply ByteArray.ext
   exact Array.eq_empty_of_size_eq_zero h0
  ·cases h
 ·cases h
theorem mapTy_ok (hC : CxOK P C) {t : Nat} {u : Ty} (h : mapTy C t = some u) : ∃ kt et i, P.underlying t = some (.map kt et) ∧ P.underlying kt = some .string ∧ TIOk P et i ∧ u.scal = true ∧ i.zero = u.vl u.d := by
 unfold mapTy at h
 split at h
 ·rename_i e he
  have hb := hC.mp t e he
  split at h
  ·rename_i i u' hi hu
   split at h
   ·rename_i hz
    cases h
    obtain ⟨hs, hz⟩ := zeroVB_ok hz
    unfold mapB at hb
    split at hb
    ·rename_i kt et hm
     rw [Bool.and_eq_true] at hb
     obtain ⟨h1, h2⟩ := hb
     obtain rfl := of_decide_eq_true h1
     split at h2
     ·rename_i hk
      exact ⟨kt, et, i, hm, hk, hC.T _ _ hi, hs, hz⟩
     ·cases h2
    ·cases hb
   ·cases h
  ·cases h
 ·cases h
theorem le_v {x : AV} {v : Value} (h : AV.le x (.v v)) : x = .v v := by
 cases h; rfl
theorem makeMap_ok (hC : CxOK P C) (hd : dOK X.n o.dst) {t : Nat} (ho : o.op = .makeMap t none) : TellC P X o s (makeMapT C s t) := by
 unfold makeMapT
 split
 ·rename_i u hu
  refine ⟨pureSame_push _, fun K hK => opWPG.wf fun hw => ?_⟩
  have hlen : s.toSt.heap.length = s.heap.length := by simp [TSt.toSt]
  refine opTG.of (fun K' hK' => op_makeMapG ho hd hK') (pushLe hw (ob := .mapo u []) (fun e' cs h => by cases h) rfl) ?_ hK
  rw [hlen]; exact .refl _
 ·trivial
theorem lookup_ok (hC : CxOK P C) (hd : dOK X.n o.dst) {t : Nat} {x k : Operand} {b : Bool} (ho : o.op = .lookup t x k b) : TellC P X o s (lookupT C s t (s.ev x) (s.ev k) b) := by
 unfold lookupT
 split
 ·rename_i u id q hu hx hq
  obtain ⟨kt, et, i, h1, h2, h3, h4, h5⟩ := mapTy_ok hC hu
  split
  ·rename_i u' es hob
   split
   ·rename_i es' hes
    obtain ⟨e1, h9⟩ := castD_ok hes
    injection e1 with e1
    injection e1 with e0 e1
    have e2 := e1.symm
    clear e1
    subst e2
    obtain rfl : es = es' := h9
    refine ⟨.refl _, fun K hK => ?_⟩
    have hob' : s.toSt.heap[id]? = some (.mapo (mapV u es)) := by rw [TSt.heap_get, hob]; rfl
    refine opTG.of (s1 := s) (so := s.toSt) (fun K' hK' => op_lookupG ho h1 h2 h3 (by rw [TSt.ev_ok, hx]; rfl) (by rw [TSt.ev_ok, stg_av hq]) hob' hd hK') (.refl _) ?_ hK
    have e : (mgetA q (mapV u es)).getD i.zero = u.vl (Option.getD (mget q es) u.d) := by
     rw [mget_ok, h5]; cases mget q es <;> rfl
    have e2 : (mgetA q (mapV u es)).isSome = Option.isSome (mget q es) := by
     rw [mget_ok]; cases mget q es <;> rfl
    have e3 : ∀ h : List TObj, (SV.val u (Option.getD (mget q es) u.d)).toAV h = .v (u.vl (Option.getD (mget q es) u.d)) := fun h => Ty.av_vl h4 _
    unfold lkAV
    rw [e, e2]
    cases b with
    | true =>
     refine AV.le_of_eq ?_
     show AV.tup _ = AV.tup [(SV.val u (Option.getD (mget q es) u.d)).toAV s.heap, AV.v (.bool (Option.isSome (mget q es)))]
     rw [e3]
    | false => exact AV.le_of_eq (e3 _).symm
   ·trivial
  ·trivial
 ·trivial
theorem mapUpdate_ok (hC : CxOK P C) (hm : X.m = 0) (hd : dOK X.n o.dst) {t : Nat} {x k v : Operand} (ho : o.op = .mapUpdate t x k v) : Tell2 P X o s (mapUpdateT C s t (s.ev x) (s.ev k) (s.ev v)) := by
 unfold mapUpdateT
 split
 ·rename_i u id q hu hx hq
  obtain ⟨kt, et, i, h1, h2, h3, h4, h5⟩ := mapTy_ok hC hu
  split
  ·rename_i u' es hob
   split
   ·rename_i es' y hes hy
    obtain ⟨e1, h9⟩ := castD_ok hes
    injection e1 with e1
    injection e1 with e0 e1
    have e2 := e1.symm
    clear e1
    subst e2
    obtain rfl : es = es' := h9
    refine ⟨.of _ _ rfl, fun K hK => ?_⟩
    have hob' : s.toSt.heap[id]? = some (.mapo (mapV u es)) := by rw [TSt.heap_get, hob]; rfl
    have hv : s.toSt.ev v = .v (u.vl y) := by
     have h6 := asT0_ok (h := s.heap) hy
     rw [Ty.av_vl h4] at h6
     rw [TSt.ev_ok]; exact le_v h6
    have hid : id < s.heap.length := by rw [nth_eq] at hob; exact (List.getElem?_eq_some_iff.1 hob).1
    have hrow : ∀ j, rowLen (setH s.heap id (.mapo u (mset q y es))) j = rowLen s.heap j := fun j => by
     unfold rowLen
     rw [nth_eq, nth_eq, setH_eq]
     by_cases hj : j = id
     ·subst hj
      rw [List.getElem?_set_self hid, ← nth_eq, hob]
     ·rw [List.getElem?_set_ne (by omega)]
    refine opT.of (fun K' hK' => op_mapUpdate ho h1 h2 (by rw [TSt.ev_ok, hx]; rfl) (by rw [TSt.ev_ok, stg_av hq]) hv hob' hm hd hK') (setLe (fun j => (hrow j).symm) (by rw [mset_ok]; exact ObjLe.refl _)) (.refl _) hK
   ·trivial
  ·trivial
 ·trivial
theorem wrap_ok (hT : TabOK P C.T) (hd : dOK X.n o.dst) {op : BinOp} {t t' : Nat} {y z : Operand} (ho : o.op = .binOp op t y z t') {x : SV} (hx : wrapT C op (s.ev y) (s.ev z) = some x) : Tell2 P X o s (.ok s x) := by
 unfold wrapT at hx
 split at hx
 ·rename_i a b _ hy hz
  have fin : ∀ {r : Int} {x : SV}, x = .val (.int .i64) (IntKind.wrap .i64 r) → evInt op .i64 a b = some (arith .i64 r) → op ≠ .shl → op ≠ .shr → Tell2 P X o s (.ok s x) := by
   intro r x he hev h1 h2
   subst he
   have e : evBin op (.int .i64 a) (.int .i64 b) = evInt op .i64 a b := by
    cases op <;> first | exact absurd rfl h1 | exact absurd rfl h2 | simp [evBin]
   have h3 : exVal C.T s.toSt o.op = some (True, .v (.int .i64 (IntKind.wrap .i64 r))) := by
    rw [ho]
    simp only [exVal, TSt.ev_ok, num_av hy, num_av hz, e, hev]
    rfl
   exact of1_ok hT hd (r := .ok (.val (.int .i64) (IntKind.wrap .i64 r))) ⟨_, _, h3, trivial, .refl _⟩
  split at hx
  ·cases hx; exact fin rfl rfl (fun h => by cases h) (fun h => by cases h)
  ·cases hx; exact fin rfl rfl (fun h => by cases h) (fun h => by cases h)
  ·cases hx; exact fin rfl rfl (fun h => by cases h) (fun h => by cases h)
  ·cases hx
 ·cases hx
theorem exT2_ok (hC : CxOK P C) (hm : X.m = 0) (hd : dOK X.n o.dst) : Tell2 P X o s (exT2 C s o) := by
 have hT := hC.T
 unfold exT2
 split
 ·rename_i e ho; exact .ofC (alloc_ok hT hd ho)
 ·rename_i e y ho; exact .ofC (box_ok hT hd ho)
 ·rename_i t parts ho; exact .ofC (build_ok hT hd ho)
 ·rename_i t len parts ho; exact .ofC (buildSlice_ok hT hd ho)
 ·rename_i t y z ho; exact .ofC (makeSlice_ok hT hd ho)
 ·rename_i t y z ho
  refine store_ok hT hd (fun h => ?_) ho
  rw [Bool.and_eq_true] at h
  exact Option.isNone_iff_eq_none.1 h.2
 ·rename_i t ho; exact .ofC (makeMap_ok hC hd ho)
 ·rename_i t x k b ho; exact .ofC (lookup_ok hC hd ho)
 ·rename_i t x k v ho; exact mapUpdate_ok hC hm hd ho
 ·rename_i cnd p q ho
  split
  ·rename_i b hb
   intro K h1 h2
   refine op_pick ho (by rw [TSt.ev_ok, boo_av hb]) hd (fun e => ⟨_, ?_, h1 e⟩) (fun e => ⟨_, ?_, h2 e⟩)
   ·rw [TSt.put_ok, TSt.ev_ok]; exact .refl _ _
   ·rw [TSt.put_ok, TSt.ev_ok]; exact .refl _ _
  ·trivial
 ·rename_i args ts ho
  split
  ·rename_i y z t t' ha ht
   have ha' : args = #[y, z] := by rw [← Array.toArray_toList (xs := args), ha]
   have ht' : ts = #[t, t'] := by rw [← Array.toArray_toList (xs := ts), ht]
   subst ha' ht'
   exact append_ok hT hm hd ho
  ·trivial
 ·rename_i fop args ts ho; exact .ofC (call_ok hC hd ho)
 ·rename_i args ts ho
  split
  ·rename_i x t ha ht
   unfold capT
   split
   ·rename_i hti hx
    refine ⟨.refl _, fun K hK => (opTG.of (s1 := s) (so := s.toSt) (fun K' hK' => op_capNil ho ha ht (hT _ _ hti).kind (by rw [TSt.ev_ok, hx]; rfl) hd hK') (.refl _) (.refl _) hK).wp⟩
   ·trivial
  ·trivial
 ·rename_i t x lo hi ho
  split
  ·rename_i hx
   have hx' : s.toSt.ev x = .v (.slice none 0 0) := by
    unfold isNilS at hx
    split at hx
    ·rename_i hx2; rw [TSt.ev_ok, hx2]; rfl
    ·cases hx
   unfold sliceNilT
   split
   ·rename_i l h _ _ _ _ hl hh hti
    split
    ·rename_i ti he
     have hb := bnds_of hl hh 0
     have key : (bnd2 l h 0).1 → ∀ K : TSt → Prop, K (s.put o.dst (.cst (.slice none 0 0))) → opT P X o K s := fun hc K hK => (opTG.of (s1 := s) (so := s.toSt) (fun K' hK' => op_sliceNil hT ho hx' hti he hb hc hd hK') (.refl _) (.refl _) hK).wp
     split
     ·exact ⟨.refl _, key trivial⟩
     ·exact ⟨.refl _, fun hc => key hc⟩
     ·exact ⟨.refl _, fun hc => key hc⟩
     ·exact ⟨.refl _, fun hc => key hc⟩
    ·trivial
   ·trivial
  ·exact of1_ok hT hd (by rw [ho]; exact exT1_ok)
 ·rename_i op t y z t' ho
  split
  ·rename_i r hr; exact nil_ok hT hd ho hr
  ·split
   ·rename_i r hr; exact eqs_ok hC hd ho hr
   ·split
    ·rename_i x hx; exact wrap_ok hT hd ho hx
    ·exact of1_ok hT hd (by rw [ho]; exact exT1_ok)
 ·exact of1_ok hT hd exT1_ok
end
end Go.Proofs.YtpeiomhgaembaaaDoor.Eng
set_option linter.unusedVariables false
set_option linter.unusedSimpArgs false
namespace Go.Proofs.YtpeiomhgaembaaaDoor.Eng
open Go Go.RowKit
noncomputable def ck {β : Type} (c : Prop) (a : Option β) : Option β := @ite _ c (Classical.propDecidable c) a none
def cb {β : Type} (b : Bool) (x y : Option β) : Option β := match b with
 | true => x
 | false => y
noncomputable def nq {β : Type} (c : Prop) (a b : Option β) : Option β := @ite _ c (Classical.propDecidable c) a (@ite _ (a = b) (Classical.propDecidable _) a none)
def ob {α β : Type} (r : Option α) (k : α → Option β) : Option β := match r with
 | some a => k a
 | none => none
def caseS {α γ β : Type} (a : α ⊕ γ) (f : α → Option β) (g : γ → Option β) : Option β := match a with
 | .inl x => f x
 | .inr y => g y
theorem ck_some {β : Type} {c : Prop} {a : Option β} {r : β} (h : ck c a = some r) : c ∧ a = some r := by
 unfold ck at h
 by_cases hc : c
 ·rw [if_pos hc] at h; exact ⟨hc, h⟩
 ·rw [if_neg hc] at h; cases h
theorem ck_pos {β : Type} {c : Prop} {a : Option β} (h : c) : ck c a = a := by unfold ck; rw [if_pos h]
theorem nq_some {β : Type} {c : Prop} {a b : Option β} {r : β} (h : nq c a b = some r) : a = some r ∧ (¬ c → b = some r) := by
 unfold nq at h
 by_cases hc : c
 ·rw [if_pos hc] at h; exact ⟨h, fun h' => absurd hc h'⟩
 ·rw [if_neg hc] at h
  by_cases he : a = b
  ·rw [if_pos he] at h; exact ⟨h, fun _ => he ▸ h⟩
  ·rw [if_neg he] at h; cases h
theorem nq_same {β : Type} {c : Prop} {a : Option β} : nq c a a = a := by
 unfold nq
 by_cases hc : c
 ·rw [if_pos hc]
 ·rw [if_neg hc, if_pos rfl]
theorem ob_some {α β : Type} {r : Option α} {k : α → Option β} {x : β} (h : ob r k = some x) : ∃ a, r = some a ∧ k a = some x := by
 cases r with
 | none => cases h
 | some a => exact ⟨a, rfl, h⟩
def loopN {X R : Type} (f : X → Option (X ⊕ R)) : Nat → X → Option R
 | 0, _ => none
 | n + 1, x => match f x with
  | none => none
  | some (.inl x') => loopN f n x'
  | some (.inr r) => some r
noncomputable def loopX {X R : Type} (f : X → Option (X ⊕ R)) (x : X) : Option R := by
 classical exact if h : ∃ n r, loopN f n x = some r then some (Classical.choose (Classical.choose_spec h)) else none
theorem loopN_mono {X R : Type} {f : X → Option (X ⊕ R)} {r : R} : ∀ {n m : Nat} {x : X}, loopN f n x = some r → n ≤ m → loopN f m x = some r
 | 0, _, _, h, _ => by cases h
 | n + 1, 0, _, _, h => by omega
 | n + 1, m + 1, x, h, hle => by
  simp only [loopN] at h ⊢
  cases hf : f x with
  | none => rw [hf] at h; cases h
  | some y =>
   rw [hf] at h
   cases y with
   | inl x' => exact loopN_mono (n := n) (m := m) (by simpa using h) (by omega)
   | inr r' => simpa using h
theorem loopX_some {X R : Type} {f : X → Option (X ⊕ R)} {x : X} {r : R} (h : loopX f x = some r) : ∃ n, loopN f n x = some r := by
 unfold loopX at h
 split at h
 ·rename_i hex
  cases h
  exact ⟨_, Classical.choose_spec (Classical.choose_spec hex)⟩
 ·cases h
theorem loopX_of {X R : Type} {f : X → Option (X ⊕ R)} {x : X} {r : R} {n : Nat} (h : loopN f n x = some r) : loopX f x = some r := by
 have hex : ∃ n r, loopN f n x = some r := ⟨n, r, h⟩
 unfold loopX
 rw [dif_pos hex]
 have h2 := Classical.choose_spec (Classical.choose_spec hex)
 have h3 := loopN_mono h2 (Nat.le_max_left _ n)
 have h4 := loopN_mono h (Nat.le_max_right (Classical.choose hex) n)
 rw [h3] at h4
 exact h4
theorem loopX_step {X R : Type} {f : X → Option (X ⊕ R)} {x : X} : loopX f x = match f x with
  | none => none
  | some (.inl x') => loopX f x'
  | some (.inr r) => some r := by
 cases hf : f x with
 | none =>
  cases h : loopX f x with
  | none => rfl
  | some r =>
   obtain ⟨n, hn⟩ := loopX_some h
   cases n with
   | zero => cases hn
   | succ n => simp [loopN, hf] at hn
 | some y =>
  cases y with
  | inr r => exact loopX_of (n := 1) (by simp [loopN, hf])
  | inl x' =>
   show loopX f x = loopX f x'
   cases h : loopX f x' with
   | none =>
    cases h2 : loopX f x with
    | none => rfl
    | some r =>
     obtain ⟨n, hn⟩ := loopX_some h2
     cases n with
     | zero => cases hn
     | succ n =>
      simp only [loopN, hf] at hn
      rw [loopX_of hn] at h
      cases h
   | some r =>
    obtain ⟨n, hn⟩ := loopX_some h
    exact loopX_of (n := n + 1) (by simp only [loopN, hf]; exact hn)
theorem loopX_ind {X R : Type} {f : X → Option (X ⊕ R)} (I : X → Prop) (μ : X → Nat) (post : R → Prop)
  (round : ∀ x, I x → match f x with | none => False | some (.inl x') => I x' ∧ μ x' < μ x | some (.inr r) => post r) : ∀ x, I x → ∃ r, loopX f x = some r ∧ post r := by
 intro x
 generalize hk : μ x = k
 induction k using Nat.strongRecOn generalizing x with
 | _ k ih =>
  intro hI
  have h := round x hI
  rw [loopX_step]
  cases hf : f x with
  | none => rw [hf] at h; exact h.elim
  | some y =>
   rw [hf] at h
   cases y with
   | inr r => exact ⟨r, rfl, h⟩
   | inl x' =>
    simp only at h
    exact ih (μ x') (by omega) x' rfl h.1
inductive SK where
 | val (t : Ty)
 | rp (t : Ty)
 | own (k sz : Nat)
 | que (k sz : Nat)
 | ptr (k sz : Nat)
 | nm (id k : Nat)
 | fn (f : Nat)
inductive OB where
 | row (e : TypeId) (t : Ty)
 | box (e : TypeId) (ts : List Ty)
 | mapo (t : Ty)
 | dead
structure Shape where
 slots : List (Nat × SK)
 objs : List OB
def slotTys : List (Nat × SK) → List Ty
 | [] => []
 | (_, .val t) :: r => t :: slotTys r
 | (_, .rp t) :: r => t :: slotTys r
 | (_, .own _ _) :: r => slotTys r
 | (_, .que _ _) :: r => slotTys r
 | (_, .ptr _ _) :: r => slotTys r
 | (_, .nm _ _) :: r => slotTys r
 | (_, .fn _) :: r => slotTys r
def objTys : List OB → List Ty
 | [] => []
 | .row _ t :: r => .slice t :: objTys r
 | .box _ ts :: r => ts ++ objTys r
 | .mapo t :: r => .slice (.pair .str t) :: objTys r
 | .dead :: r => objTys r
def Shape.tys (sh : Shape) : List Ty := slotTys sh.slots ++ objTys sh.objs
def toRp : SV → SV
 | .val t x => .rp t x
 | x => x
def unRp : SV → SV
 | .rp t x => .val t x
 | x => .any
def encSlots : List (Nat × SK) → List SV → List (Nat × SV) × List SV
 | [], l => ([], l)
 | (i, .val _) :: r, l => (match l with | y :: l => (match encSlots r l with | (a, b) => ((i, y) :: a, b)) | [] => ([], []))
 | (i, .rp _) :: r, l => (match l with | y :: l => (match encSlots r l with | (a, b) => ((i, toRp y) :: a, b)) | [] => ([], []))
 | (i, .own k sz) :: r, l => (match encSlots r l with | (a, b) => ((i, .own k sz) :: a, b))
 | (i, .que k sz) :: r, l => (match encSlots r l with | (a, b) => ((i, .own k sz) :: a, b))
 | (i, .ptr k sz) :: r, l => (match encSlots r l with | (a, b) => ((i, .ptr k 0 sz 0) :: a, b))
 | (i, .nm id k) :: r, l => (match encSlots r l with | (a, b) => ((i, .nm id k) :: a, b))
 | (i, .fn f) :: r, l => (match encSlots r l with | (a, b) => ((i, .fn f []) :: a, b))
def rowOf (e : TypeId) : SV → TObj
 | .val (.slice t) xs => .row e t xs
 | _ => .dead
def mapOf : SV → TObj
 | .val (.slice (.pair .str t)) es => .mapo t es
 | _ => .dead
def encObjs : List OB → List SV → List TObj
 | [], _ => []
 | .row e _ :: r, l => (match l with | y :: l => rowOf e y :: encObjs r l | [] => [])
 | .box e ts :: r, l => .box e (l.take ts.length) :: encObjs r (l.drop ts.length)
 | .mapo _ :: r, l => (match l with | y :: l => mapOf y :: encObjs r l | [] => [])
 | .dead :: r, l => .dead :: encObjs r l
def encS (sh : Shape) (x : denL sh.tys) (fr : List (Nat × SV)) : TSt := match encSlots sh.slots (svL sh.tys x) with
 | (a, b) => ⟨a ++ fr, encObjs sh.objs b⟩
def encI (inv : List (Nat × SK)) (iv : denL (slotTys inv)) : List (Nat × SV) := (encSlots inv (svL (slotTys inv) iv)).1
def colSlots (env : List (Nat × SV)) : List (Nat × SK) → List SV
 | [] => []
 | (i, .val _) :: r => tget env i :: colSlots env r
 | (i, .rp _) :: r => unRp (tget env i) :: colSlots env r
 | (_, .own _ _) :: r => colSlots env r
 | (_, .que _ _) :: r => colSlots env r
 | (_, .ptr _ _) :: r => colSlots env r
 | (_, .nm _ _) :: r => colSlots env r
 | (_, .fn _) :: r => colSlots env r
def colObjs : List TObj → List OB → List SV
 | _, [] => []
 | o :: h, .row _ _ :: r => (match o with | .row _ t xs => .val (.slice t) xs | _ => .any) :: colObjs h r
 | o :: h, .box _ ts :: r => (match o with | .box _ cs => cs | _ => []) ++ colObjs h r
 | o :: h, .mapo _ :: r => (match o with | .mapo t es => .val (.slice (.pair .str t)) es | _ => .any) :: colObjs h r
 | _ :: h, .dead :: r => colObjs h r
 | [], _ :: _ => []
def chkSlots (env : List (Nat × SV)) (n : Nat) : List (Nat × SK) → Bool
 | [] => true
 | (_, .val _) :: r => chkSlots env n r
 | (_, .rp _) :: r => chkSlots env n r
 | (i, .own k sz) :: r => (match tget env i with | .own k' sz' => decide (k' = k) && decide (sz' = sz) && decide (k < n) && chkSlots env n r | _ => false)
 | (i, .que k sz) :: r => (match tget env i with | .own k' sz' => decide (k' = k) && decide (sz' = sz) && decide (k < n) && chkSlots env n r | _ => false)
 | (i, .ptr k sz) :: r => (match tget env i with | .ptr k' 0 sz' 0 => decide (k' = k) && decide (sz' = sz) && decide (k < n) && chkSlots env n r | _ => false)
 | (i, .nm id k) :: r => (match tget env i with | .nm id' k' => decide (id' = id) && decide (k' = k) && decide (id < n) && chkSlots env n r | _ => false)
 | (i, .fn f) :: r => (match tget env i with | .fn f' [] => decide (f' = f) && chkSlots env n r | _ => false)
def chkObjs : List TObj → List OB → Bool
 | _, [] => true
 | o :: h, .row e _ :: r => (match o with | .row e' _ _ => decide (e' = e) | _ => false) && chkObjs h r
 | o :: h, .box e ts :: r => (match o with | .box e' cs => decide (e' = e) && decide (cs.length = ts.length) | _ => false) && chkObjs h r
 | o :: h, .mapo _ :: r => (match o with | .mapo _ _ => true | _ => false) && chkObjs h r
 | o :: h, .dead :: r => (match o with | .dead => true | _ => false) && chkObjs h r
 | [], _ :: _ => false
def decS {β : Type} (sh : Shape) (s : TSt) (k : denL sh.tys → Option β) : Option β :=
 match chkSlots s.env sh.objs.length sh.slots && chkObjs s.heap sh.objs with
 | true => (match asTL [] sh.tys (colSlots s.env sh.slots ++ colObjs s.heap sh.objs) with
  | some x => k x
  | none => none)
 | false => none
end Go.Proofs.YtpeiomhgaembaaaDoor.Eng
set_option linter.unusedVariables false
set_option linter.unusedSimpArgs false
namespace Go.Proofs.YtpeiomhgaembaaaDoor.Eng
open Go Go.RowKit
inductive Rel3 : List Ty → List SV → List SV → Prop
 | nil : Rel3 [] [] []
 | cons {t : Ty} {u : SV} {y : t.den} {ts : List Ty} {us vs : List SV} (h : asT [] t u = some y) (r : Rel3 ts us vs) : Rel3 (t :: ts) (u :: us) (.val t y :: vs)
theorem rel3_of : ∀ (ts : List Ty) (us : List SV) (x : denL ts), asTL [] ts us = some x → Rel3 ts us (svL ts x) := by
 intro ts
 induction ts with
 | nil =>
  intro us x h
  cases us with
  | nil => exact .nil
  | cons u us => cases h
 | cons t r ih =>
  intro us x h
  cases us with
  | nil => cases h
  | cons u us =>
   simp only [asTL] at h
   cases hp : asT [] t u with
   | none => rw [hp] at h; cases h
   | some p =>
    rw [hp] at h
    simp only at h
    cases hq : asTL [] r us with
    | none => rw [hq] at h; cases r <;> cases h
    | some q =>
     rw [hq] at h
     have h2 := ih us q hq
     cases r with
     | nil => cases h; exact .cons hp h2
     | cons u' r => cases h; exact .cons hp h2
theorem Rel3.split {ts ts' : List Ty} : ∀ {us vs : List SV}, Rel3 (ts ++ ts') us vs → ∃ u1 u2 v1 v2, us = u1 ++ u2 ∧ vs = v1 ++ v2 ∧ Rel3 ts u1 v1 ∧ Rel3 ts' u2 v2 := by
 induction ts with
 | nil => exact fun {us vs} h => ⟨[], us, [], vs, rfl, rfl, .nil, h⟩
 | cons t ts ih =>
  intro us vs h
  cases h with
  | cons hu hr =>
   obtain ⟨u1, u2, v1, v2, rfl, rfl, h1, h2⟩ := ih hr
   exact ⟨_ :: u1, u2, _ :: v1, v2, rfl, rfl, .cons hu h1, h2⟩
theorem Rel3.len {ts : List Ty} {us vs : List SV} (h : Rel3 ts us vs) : us.length = ts.length ∧ vs.length = ts.length := by
 induction h with
 | nil => exact ⟨rfl, rfl⟩
 | cons _ _ ih => exact ⟨by simp [ih.1], by simp [ih.2]⟩
section
variable {X : Ctx} {H H' : List TObj} {f : AV → AV} {n : Nat}
theorem Rel3.le {ts : List Ty} {us vs : List SV} (h : Rel3 ts us vs) : AV.leL ((SV.toAVL H us).map (AV.sub f)) (SV.toAVL H' vs) := by
 induction h with
 | nil => trivial
 | cons hu _ ih => exact ⟨asT_ok (Lends.none f H) hu, ih⟩
theorem asT_any (t : Ty) : asT [] t .any = none := by
 unfold asT
 cases t <;> rfl
theorem tget_app : ∀ (a b : List (Nat × SV)) (i : Nat), tget (a ++ b) i = if i ∈ a.map (·.1) then tget a i else tget b i
 | [], b, i => by simp [tget]
 | (j, x) :: r, b, i => by
  simp only [List.cons_append, tget, List.map_cons, List.mem_cons]
  by_cases h : i = j
  ·simp [h]
  ·simp only [h, if_false, false_or]
   exact tget_app r b i
theorem tget_not : ∀ (a : List (Nat × SV)) (i : Nat), i ∉ a.map (·.1) → tget a i = .any
 | [], i, _ => rfl
 | (j, x) :: r, i, h => by
  simp only [List.map_cons, List.mem_cons, not_or] at h
  simp only [tget]
  rw [if_neg h.1]
  exact tget_not r i h.2
def LeS (H H' : List TObj) (n : Nat) (u v : SV) : Prop := AV.le ((u.toAV H).sub (trimAt n)) (v.toAV H')
theorem encSlots_ok {env : List (Nat × SV)} (hrow : ∀ k, k < n → rowLen H k = rowLen H' k) : ∀ (slots : List (Nat × SK)) (us : List SV) (ts : List Ty) (vs : List SV), Rel3 (slotTys slots ++ ts) (colSlots env slots ++ us) vs → chkSlots env n slots = true →
  Rel3 ts us (encSlots slots vs).2 ∧ (encSlots slots vs).1.map (·.1) = slots.map (·.1) ∧ ∀ i ∈ slots.map (·.1), LeS H H' n (tget env i) (tget (encSlots slots vs).1 i) := by
 intro slots
 induction slots with
 | nil => exact fun us ts vs h _ => ⟨h, rfl, fun i hi => by cases hi⟩
 | cons p r ih =>
  obtain ⟨i, sk⟩ := p
  intro us ts vs h hc
  have fin : ∀ {a : List (Nat × SV)} {b : List SV} {v : SV}, encSlots r b = (a, (encSlots r b).2) → LeS H H' n (tget env i) v → (∀ j ∈ r.map (·.1), LeS H H' n (tget env j) (tget a j)) → ∀ j ∈ ((i, sk) :: r).map (·.1), LeS H H' n (tget env j) (tget ((i, v) :: a) j) := by
   intro a b v _ hv hr j hj
   simp only [tget]
   by_cases hji : j = i
   ·rw [if_pos hji, hji]; exact hv
   ·rw [if_neg hji]
    refine hr j ?_
    simp only [List.map_cons, List.mem_cons] at hj
    exact hj.resolve_left hji
  cases sk with
  | val t =>
   simp only [slotTys, colSlots, List.cons_append] at h
   cases h with
   | cons hu hr =>
    obtain ⟨h1, h2, h3⟩ := ih us ts _ hr hc
    refine ⟨h1, by simp only [encSlots, List.map_cons, h2], fin rfl ?_ h3⟩
    exact asT_ok (Lends.none (trimAt n) H) hu
  | rp t =>
   simp only [slotTys, colSlots, List.cons_append] at h
   cases h with
   | @cons _ _ y _ _ _ hu hr =>
    obtain ⟨h1, h2, h3⟩ := ih us ts _ hr hc
    refine ⟨h1, by simp only [encSlots, List.map_cons, h2], fin rfl ?_ h3⟩
    have key : tget env i = .rp t y := by
     revert hu
     cases tget env i with
     | rp u z =>
      intro hu
      obtain ⟨e, h9⟩ := castD_ok (show castD t u z = some y from hu)
      subst e
      subst h9
      rfl
     | _ => intro hu; rw [show unRp _ = SV.any from rfl, asT_any] at hu; cases hu
    rw [key]
    exact .refl _
  | own k sz =>
   simp only [slotTys, colSlots] at h
   simp only [chkSlots] at hc
   split at hc
   ·rename_i k' sz' hg
    simp only [Bool.and_eq_true, decide_eq_true_eq] at hc
    obtain ⟨⟨⟨rfl, rfl⟩, hk⟩, hc⟩ := hc
    obtain ⟨h1, h2, h3⟩ := ih us ts _ h hc
    refine ⟨h1, by simp only [encSlots, List.map_cons, h2], fin rfl ?_ h3⟩
    rw [hg]
    unfold LeS
    simp only [SV.toAV, AV.sub, trimAt, if_pos hk]
    rw [hrow _ hk]; exact .refl _
   ·cases hc
  | que k sz =>
   simp only [slotTys, colSlots] at h
   simp only [chkSlots] at hc
   split at hc
   ·rename_i k' sz' hg
    simp only [Bool.and_eq_true, decide_eq_true_eq] at hc
    obtain ⟨⟨⟨rfl, rfl⟩, hk⟩, hc⟩ := hc
    obtain ⟨h1, h2, h3⟩ := ih us ts _ h hc
    refine ⟨h1, by simp only [encSlots, List.map_cons, h2], fin rfl ?_ h3⟩
    rw [hg]
    unfold LeS
    simp only [SV.toAV, AV.sub, trimAt, if_pos hk]
    rw [hrow _ hk]; exact .refl _
   ·cases hc
  | ptr k sz =>
   simp only [slotTys, colSlots] at h
   simp only [chkSlots] at hc
   split at hc
   ·rename_i k' sz' hg
    simp only [Bool.and_eq_true, decide_eq_true_eq] at hc
    obtain ⟨⟨⟨rfl, rfl⟩, hk⟩, hc⟩ := hc
    obtain ⟨h1, h2, h3⟩ := ih us ts _ h hc
    refine ⟨h1, by simp only [encSlots, List.map_cons, h2], fin rfl ?_ h3⟩
    rw [hg]
    unfold LeS
    simp only [SV.toAV, AV.sub, trimAt, if_pos hk]
    exact .refl _
   ·cases hc
  | nm k sz =>
   simp only [slotTys, colSlots] at h
   simp only [chkSlots] at hc
   split at hc
   ·rename_i k' sz' hg
    simp only [Bool.and_eq_true, decide_eq_true_eq] at hc
    obtain ⟨⟨⟨rfl, rfl⟩, hk⟩, hc⟩ := hc
    obtain ⟨h1, h2, h3⟩ := ih us ts _ h hc
    refine ⟨h1, by simp only [encSlots, List.map_cons, h2], fin rfl ?_ h3⟩
    rw [hg]
    unfold LeS
    simp only [SV.toAV, AV.sub, trimAt, if_pos hk]
    exact .refl _
   ·cases hc
  | fn g =>
   simp only [slotTys, colSlots] at h
   simp only [chkSlots] at hc
   split at hc
   ·rename_i g' hg
    simp only [Bool.and_eq_true, decide_eq_true_eq] at hc
    obtain ⟨rfl, hc⟩ := hc
    obtain ⟨h1, h2, h3⟩ := ih us ts _ h hc
    refine ⟨h1, by simp only [encSlots, List.map_cons, h2], fin rfl ?_ h3⟩
    rw [hg]
    exact .refl _
   ·cases hc
theorem encObjs_ok : ∀ (objs : List OB) (h : List TObj) (vs : List SV), Rel3 (objTys objs) (colObjs h objs) vs → chkObjs h objs = true → (encObjs objs vs).length = objs.length ∧ objs.length ≤ h.length ∧
  ∀ (j : Nat) (o : TObj), h[j]? = some o → j < objs.length → ∃ o', (encObjs objs vs)[j]? = some o' ∧ (∀ (H H' : List TObj) (f : AV → AV), ObjLe ((o.toObj H).sub f) (o'.toObj H')) ∧ (match o with | .row _ _ xs => xs.length | _ => 0) = (match o' with | .row _ _ xs => xs.length | _ => 0) := by
 intro objs
 induction objs with
 | nil => exact fun h vs _ _ => ⟨rfl, Nat.zero_le _, fun j o _ hj => absurd hj (Nat.not_lt_zero _)⟩
 | cons ob r ih =>
  intro h vs hr hc
  cases h with
  | nil => simp [chkObjs] at hc
  | cons o h =>
   have fin : ∀ {o' : TObj} {vs' : List SV}, Rel3 (objTys r) (colObjs h r) vs' → chkObjs h r = true → encObjs (ob :: r) vs = o' :: encObjs r vs' → (∀ (H H' : List TObj) (f : AV → AV), ObjLe ((o.toObj H).sub f) (o'.toObj H')) → (match o with | .row _ _ xs => xs.length | _ => 0) = (match o' with | .row _ _ xs => xs.length | _ => 0) →
     (encObjs (ob :: r) vs).length = (ob :: r).length ∧ (ob :: r).length ≤ (o :: h).length ∧ ∀ (j : Nat) (q : TObj), (o :: h)[j]? = some q → j < (ob :: r).length → ∃ o', (encObjs (ob :: r) vs)[j]? = some o' ∧ (∀ (H H' : List TObj) (f : AV → AV), ObjLe ((q.toObj H).sub f) (o'.toObj H')) ∧ (match q with | .row _ _ xs => xs.length | _ => 0) = (match o' with | .row _ _ xs => xs.length | _ => 0) := by
    intro o' vs' h1 h2 he h3 h4
    obtain ⟨h5, h6, h7⟩ := ih h vs' h1 h2
    rw [he]
    refine ⟨by simp [h5], by simp; exact h6, fun j q hq hj => ?_⟩
    cases j with
    | zero => simp at hq; subst hq; exact ⟨o', rfl, h3, h4⟩
    | succ j => exact h7 j q (by simpa using hq) (by simpa using hj)
   cases ob with
   | row e t =>
    simp only [objTys, colObjs] at hr
    simp only [chkObjs, Bool.and_eq_true] at hc
    cases o with
    | row e' t' xs =>
     simp only [decide_eq_true_eq] at hc
     obtain ⟨rfl, hc⟩ := hc
     cases hr with
     | @cons _ _ y _ _ _ hu hr =>
      obtain ⟨e, h9⟩ := castD_ok (show castD (.slice t) (.slice t') xs = some y from hu)
      injection e with e
      subst e
      obtain rfl : xs = y := h9
      exact fin hr hc rfl (fun H H' f => ObjLe.refl _) rfl
    | box e' cs => simp at hc
    | dead => simp at hc
    | mapo t es => simp at hc
   | box e ts =>
    simp only [objTys, colObjs] at hr
    simp only [chkObjs, Bool.and_eq_true] at hc
    cases o with
    | box e' cs =>
     simp only [Bool.and_eq_true, decide_eq_true_eq] at hc
     obtain ⟨⟨rfl, hl⟩, hc⟩ := hc
     obtain ⟨u1, u2, v1, v2, h1, rfl, h3, h4⟩ := Rel3.split hr
     have hl1 := h3.len
     have e1 : cs = u1 ∧ colObjs h r = u2 := List.append_inj h1 (by rw [hl1.1]; exact hl)
     obtain ⟨rfl, rfl⟩ := e1
     refine fin (o' := .box e' v1) (vs' := v2) h4 hc ?_ (fun H H' f => ⟨rfl, h3.le⟩) rfl
     simp only [encObjs]
     rw [List.take_append_of_le_length (by rw [hl1.2]; exact Nat.le_refl _), List.take_of_length_le (by rw [hl1.2]; exact Nat.le_refl _), List.drop_append_of_le_length (by rw [hl1.2]; exact Nat.le_refl _), List.drop_eq_nil_of_le (by rw [hl1.2]; exact Nat.le_refl _), List.nil_append]
    | row e' t' xs => simp at hc
    | dead => simp at hc
    | mapo t es => simp at hc
   | dead =>
    simp only [objTys, colObjs] at hr
    simp only [chkObjs, Bool.and_eq_true] at hc
    cases o with
    | dead => exact fin hr hc.2 rfl (fun H H' f => trivial) rfl
    | row e' t' xs => simp at hc
    | box e' cs => simp at hc
    | mapo t es => simp at hc
   | mapo t =>
    simp only [objTys, colObjs] at hr
    simp only [chkObjs, Bool.and_eq_true] at hc
    cases o with
    | mapo t' xs =>
     cases hr with
     | @cons _ _ y _ _ _ hu hr =>
      obtain ⟨e, h9⟩ := castD_ok (show castD (.slice (.pair .str t)) (.slice (.pair .str t')) xs = some y from hu)
      injection e with e
      injection e with e0 e
      subst e
      obtain rfl : xs = y := h9
      exact fin hr hc.2 rfl (fun H H' f => ObjLe.refl _) rfl
    | row e' t' xs => simp at hc
    | box e' cs => simp at hc
    | dead => simp at hc
def FrOK (fr : List (Nat × SV)) (s : TSt) : Prop := ∀ (H H' : List TObj) (n i : Nat), LeS H H' n (tget s.env i) (tget fr i)
theorem rowLen_match (h : List TObj) (k : Nat) : rowLen h k = match h[k]? with | some o => (match o with | .row _ _ xs => xs.length | _ => 0) | none => 0 := by
 unfold rowLen
 rw [nth_eq]
 cases h[k]? with
 | none => rfl
 | some o => cases o <;> rfl
theorem dec_imp {sh : Shape} {s : TSt} {x : denL sh.tys} {fr : List (Nat × SV)} (hm : X.m = 0) (hc : (chkSlots s.env sh.objs.length sh.slots && chkObjs s.heap sh.objs) = true)
  (hx : asTL [] sh.tys (colSlots s.env sh.slots ++ colObjs s.heap sh.objs) = some x) (hfr : FrOK fr s) : Imp X s.toSt (encS sh x fr).toSt := by
 rw [Bool.and_eq_true] at hc
 have hrel := rel3_of _ _ _ hx
 have h0 : ∃ v1 v2, encSlots sh.slots (svL sh.tys x) = (v1, v2) := ⟨_, _, rfl⟩
 obtain ⟨v1, v2, hv⟩ := h0
 have hE : encS sh x fr = ⟨v1 ++ fr, encObjs sh.objs v2⟩ := by simp only [encS, hv]
 have hro : Rel3 (objTys sh.objs) (colObjs s.heap sh.objs) v2 := by
  have := (encSlots_ok (H := s.heap) (H' := s.heap) (n := sh.objs.length) (fun k _ => rfl) sh.slots _ _ _ hrel hc.1).1
  rw [hv] at this
  exact this
 obtain ⟨h1, h2, h3⟩ := encObjs_ok sh.objs s.heap v2 hro hc.2
 have hrow : ∀ k, k < sh.objs.length → rowLen s.heap k = rowLen (encObjs sh.objs v2) k := fun k hk => by
  have hk' : k < s.heap.length := Nat.lt_of_lt_of_le hk h2
  obtain ⟨o', h4, _, h6⟩ := h3 k _ (List.getElem?_eq_getElem hk') hk
  rw [rowLen_match, rowLen_match, List.getElem?_eq_getElem hk', h4]
  exact h6
 obtain ⟨_, h5, h6⟩ := encSlots_ok (env := s.env) hrow sh.slots _ _ _ hrel hc.1
 rw [hv] at h5 h6
 simp only at h5 h6
 intro a w hr
 have htr := Rep.trim (n := sh.objs.length) (by omega) (by simpa [TSt.toSt] using h2) hr
 rw [hE]
 refine htr.weak ⟨fun i => ?_, by simp [St.trim, TSt.toSt, h1]; exact Nat.min_eq_left h2, fun j o o' ho ho' => ?_⟩
 ·simp only [St.trim, TSt.toSt, envGet_sub, tget_ok]
  rw [tget_app, h5]
  by_cases hi : i ∈ sh.slots.map (·.1)
  ·rw [if_pos hi]
   exact h6 i hi
  ·rw [if_neg hi]
   exact hfr _ _ _ i
 ·simp only [St.trim, TSt.toSt, List.getElem?_map, List.getElem?_take] at ho
  obtain ⟨q, hq, rfl⟩ := Option.map_eq_some_iff.1 ho
  split at hq
  ·rename_i hj
   obtain ⟨q', hq', rfl⟩ := Option.map_eq_some_iff.1 hq
   obtain ⟨o2, h7, h8, _⟩ := h3 j q' hq' hj
   simp only [TSt.toSt, List.getElem?_map] at ho'
   rw [h7, Option.map_some] at ho'
   cases ho'
   exact h8 _ _ _
  ·cases hq
end
end Go.Proofs.YtpeiomhgaembaaaDoor.Eng
set_option linter.unusedVariables false
set_option linter.unusedSimpArgs false
namespace Go.Proofs.YtpeiomhgaembaaaDoor.Eng
open Go Go.RowKit
inductive PA where
 | nil (d : Nat) (e : TypeId) (t : Ty)
 | frz (d : Nat)
def preF (TY : Nat → Option Ty) : List PA → TSt → Option TSt
 | [], s => some s
 | .nil d e t :: r, s => (match tget s.env d with
  | .cst (.slice none 0 0) => preF TY r ((s.push (.row e t [])).put (some d) (.own s.heap.length t.size))
  | _ => none)
 | .frz d :: r, s => preF TY r (frzFor TY s [tget s.env d])
noncomputable def renF {β : Type} : List (Nat × SK) → TSt → (TSt → Option β) → Option β
 | [], s, k => k s
 | (i, .que _ _) :: r, s, k => (match tget s.env i with
  | .cut id sz off len => (match nth s.heap id with
   | some (.row e t xs) => (match decide (sz = t.size) with
    | true => ck (off + len = List.length xs) (renF r ((s.subAll (killS id) id (.row e t (List.drop off xs))).put (some i) (.own id sz)) k)
    | false => none)
   | _ => none)
  | _ => renF r s k)
 | (i, .val _) :: r, s, k => renF r (frzFor (fun _ => none) s [tget s.env i]) k
 | (_, .rp _) :: r, s, k => renF r s k
 | (_, .own _ _) :: r, s, k => renF r s k
 | (_, .ptr _ _) :: r, s, k => renF r s k
 | (_, .nm _ _) :: r, s, k => renF r s k
 | (_, .fn _) :: r, s, k => renF r s k
section
variable {P : Program} {X : Ctx} {σ : Nat → Option Blk} {F : Nat → Prop} {a : Act} {w : World}
theorem Rep.dropRow {s : St} (hr : Rep X s a w) (hm : X.m = 0) {i id e sz off len : Nat} {es : List (List AV)} (hi : envGet s.env i = .own id sz off len) (hq : s.heap[id]? = some (.row e sz es)) (hf : off + len = es.length) :
  Rep X ⟨(i, .own id sz 0 len) :: envSub (killAt id) s.env, (s.heap.map (AObj.sub (killAt id))).set id (.row e sz (es.drop off))⟩ a w := by
 obtain ⟨σ, F, hr⟩ := hr
 have hid : id < s.heap.length := (List.getElem?_eq_some_iff.1 hq).1
 have hob := hr.heap.obj id _ hq
 have hv := hi ▸ hr.env i
 have hRF : ∀ x y, RepF F w x y → RepF F w x y := fun x y h => h
 have fin : ∀ (k : Option Blk), (∀ q g, k = some q → q.has g → g < w.heap.size ∧ ¬ F g ∧ (hasB σ id g ∨ w.heap.size ≤ g)) → RepO (upd σ id k) F w id (.row e sz (es.drop off)) → RepV (upd σ id k) F w (.own id sz 0 len) (a.tmps.getD i undef) →
   Rep X ⟨(i, .own id sz 0 len) :: envSub (killAt id) s.env, (s.heap.map (AObj.sub (killAt id))).set id (.row e sz (es.drop off))⟩ a w := by
  intro k hk hO hV
  have h1 := hr.change (w' := w) (F' := F) (f := killAt id) hid (k := k) rfl rfl rfl (Nat.le_refl _) (fun _ _ _ => rfl) (fun _ h => h) (fun _ h => .inl h) hk (kill_own hRF) (kill_ptr hRF) kill_nm (fun h => absurd (hm ▸ h : id < 0) (Nat.not_lt_zero _)) hO
  refine ⟨_, F, h1.defers, h1.size, fun j => ?_, h1.heap, h1.keep, h1.own, h1.fnew, h1.stab, h1.hm⟩
  simp only [envGet]
  split
  ·rename_i e; subst e; exact hV
  ·exact h1.env j
 rcases RepV.ownv hv with ⟨h1, rfl, rfl, h2⟩ | ⟨g, b, c, n, h1, hn, hc, h2⟩
 ·refine fin (some .nil) (fun q g h hg => by cases h; exact hg.elim) (.inl ⟨upd_same _ _ _, ?_⟩) ?_
  ·exact List.eq_nil_of_length_eq_zero (by rw [List.length_drop]; omega)
  ·rw [h2]; exact .own0 _ _ (upd_same _ _ _)
 ·rcases hob with ⟨h3, _⟩ | ⟨g', b', c', cur, h3, h4, h5, h6, h7, h8, h9⟩
  ·rw [h1] at h3; cases h3
  ·rw [h1] at h3
   injection h3 with h3
   injection h3 with e1 e2 e3 e4
   subst e1 e2 e3
   have hlt := hr.heap.lt _ _ (.at h1)
   refine fin (some (.at_ g (b + off) (c - off) (n - off))) (fun q1 g1 h hg1 => ?_) (.inr ⟨g, b + off, c - off, cur, ?_, ?_, by omega, h6, ?_, fun cs hcs => h8 cs (List.mem_of_mem_drop hcs), fun j cs q x hj hx => ?_⟩) ?_
   ·cases h
    have e1 : g1 = g := hg1
    subst e1
    exact ⟨hlt.1, hlt.2, .inl (.at h1)⟩
   ·rw [upd_same]; simp; omega
   ·simp; omega
   ·rw [h7]; congr 1; omega
   ·rw [List.getElem?_drop] at hj
    obtain ⟨u, h10, h11, h12⟩ := h9 (off + j) cs q x hj hx
    exact ⟨u, by rw [← h10, Nat.add_assoc], h11, h12⟩
   ·rcases h2 with h2 | ⟨h2, h3, h10, A, h11⟩
    ·rw [h2]
     have := RepV.own (σ := upd σ id (some (.at_ g (b + off) (c - off) (n - off)))) (F := F) (w := w) id sz 0 len g (b + off) (c - off) (n - off) (upd_same _ _ _) (by omega) (by omega)
     simpa using this
    ·subst h2
     rw [h11]
     exact .ownz _ _ _ g (b + off) (c - off) (n - off) A (upd_same _ _ _) (by omega) (by omega)
theorem Rep.takeRow {s : St} (hr : Rep X s a w) (hm : X.m = 0) {i id e sz len : Nat} {es : List (List AV)} (hi : envGet s.env i = .own id sz 0 len) (hq : s.heap[id]? = some (.row e sz es)) (hf : len ≤ es.length) :
  Rep X ⟨(i, .own id sz 0 len) :: envSub (killAt id) s.env, (s.heap.map (AObj.sub (killAt id))).set id (.row e sz (es.take len))⟩ a w := by
 obtain ⟨σ, F, hr⟩ := hr
 have hid : id < s.heap.length := (List.getElem?_eq_some_iff.1 hq).1
 have hob := hr.heap.obj id _ hq
 have hv := hi ▸ hr.env i
 have hRF : ∀ x y, RepF F w x y → RepF F w x y := fun x y h => h
 have fin : ∀ (k : Option Blk), (∀ q g, k = some q → q.has g → g < w.heap.size ∧ ¬ F g ∧ (hasB σ id g ∨ w.heap.size ≤ g)) → RepO (upd σ id k) F w id (.row e sz (es.take len)) → RepV (upd σ id k) F w (.own id sz 0 len) (a.tmps.getD i undef) →
   Rep X ⟨(i, .own id sz 0 len) :: envSub (killAt id) s.env, (s.heap.map (AObj.sub (killAt id))).set id (.row e sz (es.take len))⟩ a w := by
  intro k hk hO hV
  have h1 := hr.change (w' := w) (F' := F) (f := killAt id) hid (k := k) rfl rfl rfl (Nat.le_refl _) (fun _ _ _ => rfl) (fun _ h => h) (fun _ h => .inl h) hk (kill_own hRF) (kill_ptr hRF) kill_nm (fun h => absurd (hm ▸ h : id < 0) (Nat.not_lt_zero _)) hO
  refine ⟨_, F, h1.defers, h1.size, fun j => ?_, h1.heap, h1.keep, h1.own, h1.fnew, h1.stab, h1.hm⟩
  simp only [envGet]
  split
  ·rename_i e; subst e; exact hV
  ·exact h1.env j
 have htl : (es.take len).length = len := by rw [List.length_take]; omega
 rcases RepV.ownv hv with ⟨h1, _, h0, h2⟩ | ⟨g, b, c, n, h1, hn, hc, h2⟩
 ·subst h0
  refine fin (some .nil) (fun q g h hg => by cases h; exact hg.elim) (.inl ⟨upd_same _ _ _, by simp⟩) ?_
  rw [h2]; exact .own0 _ _ (upd_same _ _ _)
 ·rcases hob with ⟨h3, _⟩ | ⟨g', b', c', cur, h3, h4, h5, h6, h7, h8, h9⟩
  ·rw [h1] at h3; cases h3
  ·rw [h1] at h3
   injection h3 with h3
   injection h3 with e1 e2 e3 e4
   subst e1 e2 e3
   have hlt := hr.heap.lt _ _ (.at h1)
   refine fin (some (.at_ g b c len)) (fun q1 g1 h hg1 => ?_) (.inr ⟨g, b, c, cur, ?_, ?_, h5, h6, h7, fun cs hcs => h8 cs (List.mem_of_mem_take hcs), fun j cs q x hj hx => ?_⟩) ?_
   ·cases h
    have e1 : g1 = g := hg1
    subst e1
    exact ⟨hlt.1, hlt.2, .inl (.at h1)⟩
   ·rw [upd_same, htl]
   ·rw [htl]; omega
   ·rw [List.getElem?_take] at hj
    split at hj
    ·exact h9 j cs q x hj hx
    ·cases hj
   ·rcases h2 with h2 | ⟨h2, h3, h10, A, h11⟩
    ·rw [h2]
     exact RepV.own (σ := upd σ id (some (.at_ g b c len))) (F := F) (w := w) id sz 0 len g b c len (upd_same _ _ _) (by omega) (by omega)
    ·subst h2
     rw [h11]
     exact .ownz _ _ _ g b c 0 A (upd_same _ _ _) rfl (by omega)
def WFr (W : List Nat) (s s' : TSt) : Prop := ∀ i, i ∉ W → (tget s.env i = .any → tget s'.env i = .any) ∧ (∀ t x, tget s.env i = .val t x → tget s'.env i = .any ∨ tget s'.env i = .val t x) ∧ (∀ t x, tget s.env i = .rp t x → tget s'.env i = .any ∨ tget s'.env i = .rp t x) ∧ (∀ g, tget s.env i = .fn g [] → tget s'.env i = .any ∨ tget s'.env i = .fn g [])
theorem WFr.refl (W : List Nat) (s : TSt) : WFr W s s := fun i _ => ⟨fun h => h, fun t x h => .inr h, fun t x h => .inr h, fun g h => .inr h⟩
theorem WFr.trans {W W' W'' : List Nat} {s1 s2 s3 : TSt} (h : WFr W s1 s2) (k : WFr W' s2 s3) (h1 : ∀ i, i ∉ W'' → i ∉ W) (h2 : ∀ i, i ∉ W'' → i ∉ W') : WFr W'' s1 s3 := by
 intro i hi
 obtain ⟨a1, a2, a3, a4⟩ := h i (h1 i hi)
 obtain ⟨b1, b2, b3, b4⟩ := k i (h2 i hi)
 refine ⟨fun e => b1 (a1 e), fun t x e => ?_, fun t x e => ?_, fun g e => ?_⟩
 ·rcases a2 t x e with e | e
  ·exact .inl (b1 e)
  ·exact b2 t x e
 ·rcases a3 t x e with e | e
  ·exact .inl (b1 e)
  ·exact b3 t x e
 ·rcases a4 g e with e | e
  ·exact .inl (b1 e)
  ·exact b4 g e
theorem WFr.mono {W W' : List Nat} {s1 s2 : TSt} (h : WFr W s1 s2) (h1 : ∀ i, i ∉ W' → i ∉ W) : WFr W' s1 s2 := fun i hi => h i (h1 i hi)
theorem WFr.put {W : List Nat} {s s' : TSt} (h : WFr W s s') {d : Option Nat} (hd : ∀ i, d = some i → i ∈ W) (x : SV) : WFr W s (s'.put d x) := by
 intro i hi
 cases d with
 | none => exact h i hi
 | some d =>
  have hne : ¬ i = d := fun e => hi (e ▸ hd d rfl)
  simp only [TSt.put, tget]
  rw [if_neg hne]
  exact h i hi
theorem WFr.subAll (W : List Nat) (s : TSt) (g : SV → SV) (id : Nat) (ob : TObj) : WFr W s (s.subAll g id ob) := by
 intro i _
 simp only [TSt.subAll]
 rw [tget_map (SV.sub g) rfl]
 exact ⟨fun h => by rw [h]; rfl, fun t x h => .inr (by rw [h]; rfl), fun t x h => .inr (by rw [h]; rfl), fun g h => .inr (by rw [h]; rfl)⟩
theorem WFr.freezeT (W : List Nat) (TY : Nat → Option Ty) (s : TSt) (id : Nat) : WFr W s (freezeT TY s id) := by
 unfold Eng.freezeT
 split
 ·exact WFr.subAll _ _ _ _ _
 ·split
  ·split
   ·exact WFr.subAll _ _ _ _ _
   ·exact WFr.refl _ _
  ·exact WFr.refl _ _
 ·exact WFr.refl _ _
theorem WFr.freezeAll (W : List Nat) (TY : Nat → Option Ty) : ∀ (ids : List Nat) (s : TSt), WFr W s (freezeAllT TY s ids)
 | [], s => WFr.refl _ _
 | id :: r, s => (WFr.freezeT W TY s id).trans (WFr.freezeAll W TY r _) (fun _ h => h) (fun _ h => h)
theorem preF_ok (TY : Nat → Option Ty) : ∀ (l : List PA) (s s' : TSt), preF TY l s = some s' → Imp X s.toSt s'.toSt := by
 intro l
 induction l with
 | nil => intro s s' h; cases h; exact .refl _ _
 | cons p r ih =>
  intro s s' h
  cases p with
  | nil d e t =>
   simp only [preF] at h
   split at h
   ·rename_i hd
    refine Imp.trans ?_ (ih _ _ h)
    intro a w hr
    have hw : s.wf := by obtain ⟨σ, F, hr'⟩ := hr; exact wf_of hr'
    have hlen : s.toSt.heap.length = s.heap.length := by simp [TSt.toSt]
    have h1 := Rep.nilOwn (d := d) (e := e) (sz := t.size) (by simp only [TSt.toSt, tget_ok]; rw [hd]; rfl) hr
    have h2 := pushLe hw (ob := .row e t []) (oa := .row e t.size []) (fun e' cs h => by cases h) ⟨rfl, rfl, rfl, fun i cs ds a b => by simp at a⟩
    refine h1.weak ?_
    rw [TSt.put_ok]
    refine StLe.put (s := ⟨s.toSt.env, s.toSt.heap ++ [.row e t.size []]⟩) h2 ?_ (some d)
    simp only [SV.toAV, hlen]
    rw [rowLen_of (e := e) (t := t) (xs := []) (by rw [nth_eq]; simp [TSt.push])]
    exact .refl _
   ·cases h
  | frz d =>
   simp only [preF] at h
   exact Imp.trans (freezeAllT_ok TY _ _).1 (ih _ _ h)
theorem preF_fr (W : List Nat) (TY : Nat → Option Ty) : ∀ (l : List PA) (s s' : TSt), preF TY l s = some s' → (∀ p ∈ l, ∀ d e t, p = .nil d e t → d ∈ W) → WFr W s s' := by
 intro l
 induction l with
 | nil => intro s s' h _; cases h; exact WFr.refl _ _
 | cons p r ih =>
  intro s s' h hW
  cases p with
  | nil d e t =>
   simp only [preF] at h
   split at h
   ·refine WFr.trans ?_ (ih _ _ h (fun p hp => hW p (List.mem_cons_of_mem _ hp))) (fun _ h => h) (fun _ h => h)
    exact WFr.put (d := some d) (fun i _ => ⟨fun h => h, fun t x h => .inr h, fun t x h => .inr h, fun g h => .inr h⟩) (fun i hi => by cases hi; exact hW _ (List.mem_cons_self ..) _ _ _ rfl) _
   ·cases h
  | frz d =>
   simp only [preF] at h
   exact WFr.trans (WFr.freezeAll W TY _ _) (ih _ _ h (fun p hp => hW p (List.mem_cons_of_mem _ hp))) (fun _ h => h) (fun _ h => h)
def PSx (W : List Nat) (s s' : TSt) : Prop := ∀ i, i ∉ W → (tget s.env i = .any → tget s'.env i = .any) ∧ (∀ t (x : t.den), tget s.env i = .val t x → tget s'.env i = .val t x) ∧ (∀ t (x : t.den), tget s.env i = .rp t x → tget s'.env i = .rp t x) ∧ (∀ g, tget s.env i = .fn g [] → tget s'.env i = .fn g [])
theorem PSx.refl (W : List Nat) (s : TSt) : PSx W s s := fun _ _ => ⟨fun h => h, fun _ _ h => h, fun _ _ h => h, fun _ h => h⟩
theorem PSx.mono {W W' : List Nat} {s1 s2 : TSt} (h : PSx W s1 s2) (h1 : ∀ i, i ∉ W' → i ∉ W) : PSx W' s1 s2 := fun i hi => h i (h1 i hi)
theorem PSx.fr {W : List Nat} {s1 s2 : TSt} (h : PSx W s1 s2) : WFr W s1 s2 := fun i hi => ⟨(h i hi).1, fun t x hx => .inr ((h i hi).2.1 t x hx), fun t x hx => .inr ((h i hi).2.2.1 t x hx), fun g hx => .inr ((h i hi).2.2.2 g hx)⟩
theorem renF_ok {β : Type} (hm : X.m = 0) : ∀ (l : List (Nat × SK)) (s : TSt) (k : TSt → Option β) (r : β), renF l s k = some r → ∃ s', k s' = some r ∧ Imp X s.toSt s'.toSt ∧ PureSame s s' := by
 intro l
 induction l with
 | nil => exact fun s k r h => ⟨s, h, .refl _ _, PureSame.refl _⟩
 | cons p l ih =>
  obtain ⟨i, sk⟩ := p
  have next : ∀ (s : TSt) (k : TSt → Option β) (r : β), renF l s k = some r → ∃ s', k s' = some r ∧ Imp X s.toSt s'.toSt ∧ PureSame s s' := fun s k r h => by
   obtain ⟨s', h1, h2, h3⟩ := ih s k r h
   exact ⟨s', h1, h2, h3⟩
  intro s k r h
  cases sk with
  | que k0 sz0 =>
   simp only [renF] at h
   split at h
   ·rename_i id sz off len hi
    split at h
    ·rename_i e t xs hq
     split at h
     ·rename_i hd
      obtain rfl := of_decide_eq_true hd
      obtain ⟨hc, h⟩ := ck_some h
      obtain ⟨s', h1, h2, h3⟩ := ih _ k r h
      refine ⟨s', h1, Imp.trans (fun a w hr => ?_) h2, ?_⟩
      ·have hq' : s.toSt.heap[id]? = some (.row e t.size (List.map t.cells xs)) := by rw [TSt.heap_get, hq]; rfl
       have h4 := Rep.dropRow hr hm (i := i) (off := off) (len := len) (by simp only [TSt.toSt, tget_ok]; rw [hi]; rfl) hq' (by rw [mapLen (u := t) xs]; exact hc)
       refine h4.weak ?_
       rw [TSt.put_ok]
       have h5 := subAll_le (s := s) (f := killAt id) (g := killS id) (id := id) (ob := .row e t (List.drop off xs)) (oa := .row e t.size ((List.map t.cells xs).drop off)) sub_kill (by
        have e2 : (List.map t.cells xs).drop off = (List.drop off xs).map t.cells := (List.map_drop ..).symm
        rw [e2]; exact ObjLe.refl _)
       refine StLe.put (s := ⟨envSub (killAt id) s.toSt.env, (s.toSt.heap.map (AObj.sub (killAt id))).set id (.row e t.size ((List.map t.cells xs).drop off))⟩) h5 ?_ (some i)
       have hid : id < s.heap.length := by rw [nth_eq] at hq; exact (List.getElem?_eq_some_iff.1 hq).1
       simp only [SV.toAV]
       rw [rowLen_of (e := e) (t := t) (xs := List.drop off xs) (by rw [nth_eq]; simp [TSt.subAll, setH_eq, hid])]
       have e3 : (List.drop off xs).length = len := by
        have e4 : (List.drop off xs).length = List.length xs - off := List.length_drop ..
        rw [e4]; omega
       rw [e3]
       exact .refl _
      ·intro j
       have h5 := PureSame.subAll s (killS id) id (.row e t (List.drop off xs)) j
       have h6 := h3 j
       by_cases hji : j = i
       ·subst hji
        refine ⟨fun h => ?_, fun t x h => ?_, fun t x h => ?_, fun g h => ?_⟩ <;> rw [hi] at h <;> cases h
       ·have h7 : tget ((s.subAll (killS id) id (.row e t (List.drop off xs))).put (some i) (.own id t.size)).env j = tget (s.subAll (killS id) id (.row e t (List.drop off xs))).env j := by
         simp only [TSt.put, tget]; rw [if_neg hji]
        rw [h7] at h6
        exact ⟨fun h => h6.1 (h5.1 h), fun t x h => h6.2.1 t x (h5.2.1 t x h), fun t x h => h6.2.2.1 t x (h5.2.2.1 t x h), fun g h => h6.2.2.2 g (h5.2.2.2 g h)⟩
     ·cases h
    ·cases h
   ·exact next _ _ _ h
  | val t =>
   obtain ⟨s', h1, h2, h3⟩ := ih _ k r h
   have hf := freezeAllT_ok (X := X) (fun _ => none) (idsIn s.heap (SV.ids0L [tget s.env i])) s
   exact ⟨s', h1, hf.1.trans h2, hf.2.trans h3⟩
  | rp t => exact next _ _ _ h
  | own k0 sz0 => exact next _ _ _ h
  | ptr k0 sz0 => exact next _ _ _ h
  | nm k0 sz0 => exact next _ _ _ h
  | fn g => exact next _ _ _ h
end
end Go.Proofs.YtpeiomhgaembaaaDoor.Eng
set_option linter.unusedVariables false
set_option linter.unusedSimpArgs false
namespace Go.Proofs.YtpeiomhgaembaaaDoor.Eng
open Go Go.RowKit
section
variable {β : Type}
noncomputable def useR (s : TSt) (d : Option Nat) (K : TSt → Option β) : R2 → Option β
 | .bad => none
 | .ok s' x => K (s'.put d x)
 | .cond c s' x => ck c (K (s'.put d x))
 | .call ts r s' => ob r fun y => K (s'.put d (svRet ts y))
 | .callO ts os r s' => ob r fun y => K ((s'.pushL (ownObjs ts os y)).put d (svRetO s'.heap.length ts os y))
 | .pick b x y => cb b (K (s.put d x)) (K (s.put d y))
 | .nq c b => nq c (K (s.put d (.val .bool b))) (K (s.put d (.val .bool (!b))))
def dB (n : Nat) : Option Nat → Bool
 | some d => decide (d < n)
 | none => true
def gd (want b : Bool) (x y : Option β) : Option β := match want with
 | true => cb b x y
 | false => cb b y x
noncomputable def exOneF (C : Cx) (o : Oper) (K : TSt → Option β) (s : TSt) : Option β := match dB C.n o.dst with
 | true => useR s o.dst K (exT2 C s o)
 | false => none
def undefS : SV := .cst (.tuple #[])
def isUndef : SV → Bool
 | .cst v => (match v with | .tuple a => decide (a.size = 0) | _ => false)
 | _ => false
noncomputable def exGuardF (C : Cx) (ops : List Oper) (o : Oper) (A K : TSt → Option β) (s : TSt) : Option β := match o.guard with
 | none => A s
 | some (j, want) => (match nthDst ops j with
  | some d => (match isUndef (tget s.env d), decide (d < C.n) && dB C.n o.dst with
   | true, true => K (s.put o.dst undefS)
   | false, true => (match (tget s.env d).boo with
    | some b => gd want b (A (s.put (some d) (.cst (.bool want)))) (K ((s.put (some d) (.cst (.bool (!want)))).put o.dst undefS))
    | none => none)
   | _, _ => none)
  | none => none)
noncomputable def exOpsF (C : Cx) (ops : List Oper) : List Oper → (TSt → Option β) → TSt → Option β
 | [], K, s => K s
 | o :: r, K, s => exGuardF C ops o (exOneF C o (exOpsF C ops r K)) (exOpsF C ops r K) s
noncomputable def exStepD (C : Cx) (f : Bool) (o : Oper) (K : TSt → Option β) (s : TSt) : Option β := match dB C.n o.dst, f with
 | true, true => (match o.op with
  | .pick c p q => (match (s.ev c).boo with
   | some b => cb b (K (s.put o.dst (s.ev p))) (K (s.put o.dst (s.ev q)))
   | none => none)
  | op => useR s o.dst K (of1 s (exT1 C.T s op)))
 | true, false => (match o.op with
  | .call { callee := .value fop, args := args, .. } => useR s o.dst K (callT C s fop args.toList)
  | .alloc e => useR s o.dst K (allocT C s e)
  | .box e y => useR s o.dst K (boxT C s e (inFZ C o.dst) (s.ev y))
  | .build t parts => useR s o.dst K (buildT C s t (parts.toList.map fun q => (q.1, s.ev q.2)))
  | .buildSlice t len parts => useR s o.dst K (buildSliceT C s t len parts.toList)
  | .makeSlice t y z => useR s o.dst K (makeSliceT C s t (sameOp y z) (s.ev y))
  | .makeMap t none => useR s o.dst K (makeMapT C s t)
  | .lookup t x k b => useR s o.dst K (lookupT C s t (s.ev x) (s.ev k) b)
  | _ => none)
 | false, _ => none
noncomputable def exDrawF (C : Cx) (ops : List Oper) (tail : TSt → Option β) : List (Nat × Bool) → TSt → Option β
 | [], s => tail s
 | (i, f) :: r, s => (match nthOp ops i with
  | some o => exGuardF C ops o (exStepD C f o (exDrawF C ops tail r)) (exDrawF C ops tail r) s
  | none => none)
noncomputable def both (a b : Option β) : Option β := @ite _ (a = b) (Classical.propDecidable _) a none
def swpN (L i : Nat) : Nat := match decide (i = L), decide (i = L + 1) with
 | true, _ => L + 1
 | _, true => L
 | _, _ => i
def swpS (L : Nat) : SV → SV
 | .own i sz => .own (swpN L i) sz
 | .cut i sz off len => .cut (swpN L i) sz off len
 | .ptr i k sz j => .ptr (swpN L i) k sz j
 | .nm i k => .nm (swpN L i) k
 | x => x
def swapL {α : Type} : List α → Nat → List α
 | a :: b :: r, 0 => b :: a :: r
 | a :: r, k + 1 => a :: swapL r k
 | l, _ => l
def TSt.swap (s : TSt) (L : Nat) : TSt := ⟨s.env.map fun p => (p.1, p.2.sub (swpS L)), swapL (s.heap.map (TObj.sub (swpS L))) L⟩
noncomputable def swapF (L : Nat) (k : TSt → Option β) (s : TSt) : Option β := match Nat.ble (L + 2) s.heap.length with
 | true => k (s.swap L)
 | false => k s
noncomputable def exTwoF (C : Cx) (ops : List Oper) (tail : TSt → Option β) (i : Nat) (π1 : List (Nat × Bool)) (j : Nat) (π2 : List (Nat × Bool)) (s : TSt) : Option β := match nthOp ops i, nthOp ops j with
 | some o, some o' => (match o.guard, o'.guard with
  | none, none => both (exStepD C false o (exDrawF C ops tail π1) s) (exStepD C false o' (exDrawF C ops (swapF s.heap.length tail) π2) s)
  | _, _ => none)
 | _, _ => none
def Plan.isNo : Plan → Bool
 | .no => true
 | _ => false
noncomputable def exPlanF (C : Cx) (ops : List Oper) (tail : TSt → Option β) : Plan → TSt → Option β
 | .done, s => tail s
 | .take i r, s => (match nthOp ops i with
  | some o => exGuardF C ops o (exStepD C true o (exPlanF C ops tail r)) (exPlanF C ops tail r) s
  | none => none)
 | .alt i a b, s => (match b.isNo with
  | true => (match nthOp ops i with
   | some o => exGuardF C ops o (exOneF C o (exPlanF C ops tail a)) (exPlanF C ops tail a) s
   | none => none)
  | false => both (match nthOp ops i with
   | some o => exGuardF C ops o (exOneF C o (exPlanF C ops tail a)) (exPlanF C ops tail a) s
   | none => none) (exPlanF C ops tail b s))
 | .no, _ => none
noncomputable def exRegF (C : Cx) (ops : List Oper) (d : Nat × List (Nat × Bool) × Option (Nat × List (Nat × Bool) × Nat × List (Nat × Bool))) (K : TSt → Option β) (s : TSt) : Option β :=
 exDrawF C ops (match d.2.2 with
  | none => exOpsF C ops (dropL ops d.1) K
  | some (i, π1, j, π2) => exTwoF C ops (exOpsF C ops (dropL ops d.1) K) i π1 j π2) d.2.1 s
end
theorem cb_some {β : Type} {b : Bool} {x y : Option β} {r : β} (h : cb b x y = some r) : (b = true → x = some r) ∧ (b = false → y = some r) := by
 cases b with
 | true => exact ⟨fun _ => h, fun e => (nomatch e)⟩
 | false => exact ⟨fun e => (nomatch e), fun _ => h⟩
theorem gd_some {β : Type} {want b : Bool} {x y : Option β} {r : β} (h : gd want b x y = some r) : (b = want → x = some r) ∧ (b = (!want) → y = some r) := by
 cases want with
 | true => exact cb_some h
 | false => exact (cb_some h).symm
theorem both_some {β : Type} {a b : Option β} {r : β} (h : both a b = some r) : a = some r ∧ b = some r := by
 unfold both at h
 by_cases hc : a = b
 ·rw [if_pos hc] at h; exact ⟨h, hc ▸ h⟩
 ·rw [if_neg hc] at h; cases h
theorem both_same {β : Type} (a : Option β) : both a a = a := by unfold both; rw [if_pos rfl]
def dstsOf (ops : List Oper) : List Nat := ops.filterMap (·.dst)
section
variable {P : Program} {C : Cx} {X : Ctx} {σ : Nat → Option Blk} {F : Nat → Prop} {a : Act} {w : World} {s : TSt} {o : Oper} {β : Type}
theorem PureSame.fr {s s' : TSt} (h : PureSame s s') (W : List Nat) : WFr W s s' := fun i _ => ⟨(h i).1, fun t x hx => .inr ((h i).2.1 t x hx), fun t x hx => .inr ((h i).2.2.1 t x hx), fun g hx => .inr ((h i).2.2.2 g hx)⟩
theorem opT.mono {K K' : TSt → Prop} (h : opT P X o K s) (hk : ∀ s, K s → K' s) : opT P X o K' s := opWP.mono h fun s' ⟨s1, h1, h2⟩ => ⟨s1, h1, hk _ h2⟩
def lk (X : Ctx) (K : TSt → Option β) (r : β) (W : List Nat) (s : TSt) : St → Prop := fun s' => ∃ s1, Imp X s' s1.toSt ∧ K s1 = some r ∧ WFr W s s1
theorem dstsOf_mem {ops : List Oper} {o : Oper} (h : o ∈ ops) {d : Nat} (hd : o.dst = some d) : d ∈ dstsOf ops := List.mem_filterMap.2 ⟨o, h, hd⟩
theorem nthDst_mem {ops : List Oper} {j d : Nat} (h : nthDst ops j = some d) : d ∈ dstsOf ops := by
 rw [nthDst_eq] at h
 obtain ⟨o, h1, h2⟩ := Option.bind_eq_some_iff.1 h
 exact dstsOf_mem (List.mem_of_getElem? h1) h2
theorem dOK_of {n : Nat} {d : Option Nat} (h : dB n d = true) : dOK n d := by
 cases d with
 | none => trivial
 | some d => exact (of_decide_eq_true (p := d < n) h)
theorem useR_ok {W : List Nat} (hd : ∀ d, o.dst = some d → d ∈ W) {q : R2} (hq : Tell2 P X o s q) {K : TSt → Option β} {r : β} (h : useR s o.dst K q = some r) : opWP P X o (lk X K r W s) s.toSt := by
 have put : ∀ {s' : TSt} (x : SV), PureSame s s' → WFr W s (s'.put o.dst x) := fun x hp => WFr.put (hp.fr W) hd x
 cases q with
 | bad => cases h
 | ok s' x => exact hq.2 (fun s1 => K s1 = some r ∧ WFr W s s1) ⟨h, put x hq.1⟩
 | cond c s' x =>
  obtain ⟨hc, h⟩ := ck_some h
  exact hq.2 hc (fun s1 => K s1 = some r ∧ WFr W s s1) ⟨h, put x hq.1⟩
 | call ts q s' =>
  obtain ⟨y, h1, h2⟩ := ob_some h
  exact hq.2 y h1 (fun s1 => K s1 = some r ∧ WFr W s s1) ⟨h2, put _ hq.1⟩
 | callO ts os q s' =>
  obtain ⟨y, h1, h2⟩ := ob_some h
  exact hq.2 y h1 (fun s1 => K s1 = some r ∧ WFr W s s1) ⟨h2, put _ (hq.1.trans (.of _ _ rfl))⟩
 | pick b x y =>
  obtain ⟨h1, h2⟩ := cb_some h
  exact hq (fun s1 => K s1 = some r ∧ WFr W s s1) (fun e => ⟨h1 e, put _ (.refl _)⟩) (fun e => ⟨h2 e, put _ (.refl _)⟩)
 | nq c b =>
  obtain ⟨h1, h2⟩ := nq_some h
  refine hq (fun s1 => K s1 = some r ∧ WFr W s s1) (fun _ => ⟨h1, put _ (.refl _)⟩) (fun hc b' => ⟨?_, put _ (.refl _)⟩)
  by_cases e : b' = b
  ·subst e; exact h1
  ·have e' : b' = !b := by cases b <;> cases b' <;> first | rfl | exact absurd rfl e
   rw [e']; exact h2 hc
theorem know_imp {d : Nat} {b : Bool} (hd : (tget s.env d).boo = some b) : Imp X s.toSt (s.put (some d) (.cst (.bool b))).toSt := by
 intro a w hr
 have h := Rep.know (d := d) (b := b) (by simp only [TSt.toSt, tget_ok]; exact boo_av hd) hr
 rw [TSt.put_ok]
 exact h
theorem isUndef_ok {x : SV} (h : isUndef x = true) : x = undefS := by
 unfold isUndef at h
 split at h
 ·split at h
  ·rename_i a
   rw [Array.eq_empty_of_size_eq_zero (of_decide_eq_true h)]; rfl
  ·cases h
 ·cases h
theorem undef_av (h : List TObj) : undefS.toAV h = .v undef := rfl
theorem yielded_undef {s : St} {ops : Array Oper} {j d : Nat} (hj : (ops[j]?).bind (·.dst) = some d) (hn : d < X.n) (hd : envGet s.env d = .v undef) {a : Act} {w : World} (hr : Rep X s a w) : yielded ops a.tmps j = none := by
 obtain ⟨σ, F, hr⟩ := hr
 have hv : a.tmps.getD d undef = undef := RepV.val (hd ▸ hr.env d)
 have hlt : d < a.tmps.size := by rw [hr.size]; exact hn
 have : a.tmps[d]? = some undef := by
  rw [Array.getElem?_eq_getElem hlt]
  rw [Array.getD_eq_getD_getElem?, Array.getElem?_eq_getElem hlt] at hv
  exact congrArg some hv
 simp [yielded, hj, this, undef]
theorem WPO.skip {ops : Array Oper} {rest : List Oper} {o : Oper} {K : St → Prop} {s : St} (hw : ∀ a w, Rep X s a w → Region.wanted o (yielded ops a.tmps) = false) (hdst : dOK X.n o.dst) (h : WPO P X ops rest K (s.put o.dst (.v undef))) : WPO P X ops (o :: rest) K s := by
 intro Qc a w hK hr
 refine wpList_step fun K' hK' => ?_
 rw [if_neg (by rw [hw a w hr]; simp)]
 obtain ⟨σ, F, hr⟩ := hr
 exact hK' _ _ (h Qc _ _ hK ⟨σ, F, hr.put hdst (.f _ _ (.v _))⟩)
theorem exOpsF_ok (hC : CxOK P C) (hn : X.n = C.n) (hm : X.m = 0) (ops : List Oper) : ∀ (l : List Oper) (K : TSt → Option β) (s : TSt) (r : β), (∀ o ∈ l, o ∈ ops) → exOpsF C ops l K s = some r → WPO P X ops.toArray l (lk X K r (dstsOf ops) s) s.toSt
 | [], K, s, r, _, h => WPO.nil ⟨s, .refl _ _, h, .refl _ _⟩
 | o :: l, K, s, r, hin, h => by
  have ho : o ∈ ops := hin o (List.mem_cons_self ..)
  have hl : ∀ o ∈ l, o ∈ ops := fun o h => hin o (List.mem_cons_of_mem _ h)
  have rest : ∀ {s0 s' : TSt}, exOpsF C ops l K s' = some r → WFr (dstsOf ops) s0 s' → WPO P X ops.toArray l (lk X K r (dstsOf ops) s0) s'.toSt := fun h1 h2 => by
   intro Qc a w hK hr
   exact exOpsF_ok hC hn hm ops l K _ r hl h1 Qc a w (fun s2 a' w' ⟨s3, h3, h4, h5⟩ hr' => hK s2 a' w' ⟨s3, h3, h4, h2.trans h5 (fun _ h => h) (fun _ h => h)⟩ hr') hr
  have one : ∀ {s0 s : TSt}, WFr (dstsOf ops) s0 s → exOneF C o (exOpsF C ops l K) s = some r → opWP P X o (WPO P X ops.toArray l (lk X K r (dstsOf ops) s0)) s.toSt := fun {s0 s} hs h => by
   unfold exOneF at h
   split at h
   ·rename_i hd
    refine (useR_ok (fun d hd => dstsOf_mem ho hd) (exT2_ok hC hm (hn ▸ dOK_of hd)) h).mono ?_
    rintro s' ⟨s1, h1, h2, h3⟩ Qc a w hK hr
    exact rest h2 (hs.trans h3 (fun _ h => h) (fun _ h => h)) Qc a w hK (h1 a w hr)
   ·cases h
  unfold exOpsF exGuardF at h
  split at h
  ·rename_i hg
   exact WPO.cons hg (one (.refl _ _) h)
  ·rename_i j want hg
   split at h
   ·rename_i d hj
    have hj' : (ops.toArray[j]?).bind (·.dst) = some d := by rw [List.getElem?_toArray, ← nthDst_eq]; exact hj
    have hdm := nthDst_mem hj
    have wf1 : ∀ (v : SV), WFr (dstsOf ops) s (s.put (some d) v) := fun v => WFr.put (.refl _ _) (fun i hi => by cases hi; exact hdm) v
    split at h
    ·rename_i hu hdn
     rw [Bool.and_eq_true] at hdn
     have hu' := isUndef_ok hu
     refine WPO.skip (fun a w hr => ?_) (hn ▸ dOK_of hdn.2) ?_
     ·have h1 := yielded_undef hj' (hn ▸ of_decide_eq_true hdn.1) (by simp only [TSt.toSt, tget_ok]; rw [hu']; rfl) hr
      simp [Region.wanted, hg, h1]
     ·have h3 := rest (s0 := s) h (WFr.put (.refl _ _) (fun i hi => dstsOf_mem ho hi) _)
      rwa [TSt.put_ok, undef_av] at h3
    ·rename_i hu hdn
     rw [Bool.and_eq_true] at hdn
     split at h
     ·rename_i b hb
      obtain ⟨h1, h2⟩ := gd_some h
      by_cases e : b = want
      ·refine WPO.guard hg hj' (by simp only [TSt.toSt, tget_ok]; exact boo_av hb) (hn ▸ dOK_of hdn.2) (hn ▸ of_decide_eq_true hdn.1) (fun e => ?_) (fun e' => ?_)
       ·exact opWP.from (know_imp (by rw [hb, e])) (one (wf1 _) (h1 e))
       ·exfalso; rw [e] at e'; cases want <;> cases e'
      ·have e' : b = !want := by cases b <;> cases want <;> first | rfl | exact absurd rfl e
       have hk : Imp X s.toSt (s.put (some d) (.cst (.bool (!want)))).toSt := know_imp (by rw [hb, e'])
       have h3 := rest (s0 := s) (h2 e') (WFr.put (wf1 _) (fun i hi => dstsOf_mem ho hi) _)
       rw [TSt.put_ok, undef_av] at h3
       have h4 := WPO.skip (o := o) (s := (s.put (some d) (.cst (.bool (!want)))).toSt) (fun a w hr => by
        have h1 : yielded ops.toArray a.tmps j = some (!want) := by
         obtain ⟨σ, F, hr⟩ := hr
         have hv : a.tmps.getD d undef = .bool (!want) := RepV.val ((by simp only [TSt.toSt, tget_ok, TSt.put, tget, if_true]; rfl : envGet (s.put (some d) (.cst (.bool (!want)))).toSt.env d = AV.v (.bool (!want))) ▸ hr.env d)
         have hlt : d < a.tmps.size := by rw [hr.size, hn]; exact of_decide_eq_true hdn.1
         have : a.tmps[d]? = some (.bool (!want)) := by
          rw [Array.getElem?_eq_getElem hlt]
          rw [Array.getD_eq_getD_getElem?, Array.getElem?_eq_getElem hlt] at hv
          exact congrArg some hv
         simp only [yielded, hj', Option.bind_some, this]
        simp [Region.wanted, hg, h1]) (hn ▸ dOK_of hdn.2) h3
       intro Qc a w hK hr
       exact h4 Qc a w hK (hk a w hr)
     ·cases h
    ·cases h
   ·cases h
end
end Go.Proofs.YtpeiomhgaembaaaDoor.Eng
set_option linter.unusedVariables false
set_option linter.unusedSimpArgs false
namespace Go.Proofs.YtpeiomhgaembaaaDoor.Eng
open Go Go.RowKit
section
variable {P : Program} {C : Cx} {X : Ctx} {σ : Nat → Option Blk} {F : Nat → Prop} {a : Act} {w : World} {s : TSt} {o : Oper} {β : Type} {ops : Array Oper} {n : Nat} {rest : List (Nat × Bool)} {listed : Array Bool}
theorem DrawJ.mono {K K' : St → Prop} {s : St} (hk : ∀ s, K s → K' s) (h : DrawJ P X ops n rest listed K s) : DrawJ P X ops n rest listed K' s :=
 fun Qc a w hQ hK hr inv => h Qc a w hQ (fun s' a' w' h1 h2 => hK s' a' w' (hk _ h1) h2) hr inv
theorem useC_ok {W : List Nat} (hd : ∀ d, o.dst = some d → d ∈ W) {q : R2} (hq : TellC P X o s q) {K : TSt → Option β} {r : β} (h : useR s o.dst K q = some r) : opWPG P X o (lk X K r W s) s.toSt := by
 cases q with
 | bad => cases h
 | call ts q s' =>
  obtain ⟨y, h1, h2⟩ := ob_some h
  exact hq.2 y h1 (fun s1 => K s1 = some r ∧ WFr W s s1) ⟨h2, WFr.put (hq.1.fr W) hd _⟩
 | callO ts os q s' =>
  obtain ⟨y, h1, h2⟩ := ob_some h
  have hp : PureSame s (s'.pushL (ownObjs ts os y)) := hq.1.trans (.of _ _ rfl)
  exact hq.2 y h1 (fun s1 => K s1 = some r ∧ WFr W s s1) ⟨h2, WFr.put (hp.fr W) hd _⟩
 | ok s' x => exact hq.2 (fun s1 => K s1 = some r ∧ WFr W s s1) ⟨h, WFr.put (hq.1.fr W) hd _⟩
 | cond c s' x =>
  obtain ⟨hc, h⟩ := ck_some h
  exact hq.2 hc (fun s1 => K s1 = some r ∧ WFr W s s1) ⟨h, WFr.put (hq.1.fr W) hd _⟩
 | _ => exact hq.elim
def walkQ (ops : Array Oper) (n : Nat) : List (Nat × Bool) → Array Bool → Option (Array Bool)
 | [], listed => some listed
 | (i, true) :: r, listed => (match decide (i < n) && (Region.ready .any ops listed).contains i && Region.free .any ops listed i with
  | true => walkQ ops n r (listed.setIfInBounds i true)
  | false => none)
 | (i, false) :: r, listed => (match decide (i < n) && decide (Region.ready .any ops listed = [i]) with
  | true => walkQ ops n r (listed.setIfInBounds i true)
  | false => none)
theorem walkQ_t {ops : Array Oper} {n i : Nat} {π : List (Nat × Bool)} {listed l' : Array Bool} (h : walkQ ops n ((i, true) :: π) listed = some l') : ((i < n ∧ (Region.ready .any ops listed).contains i = true) ∧ Region.free .any ops listed i = true) ∧ walkQ ops n π (listed.setIfInBounds i true) = some l' := by
 simp only [walkQ] at h
 split at h
 ·rename_i hc
  simp only [Bool.and_eq_true, decide_eq_true_eq] at hc
  exact ⟨hc, h⟩
 ·cases h
theorem walkQ_f {ops : Array Oper} {n i : Nat} {π : List (Nat × Bool)} {listed l' : Array Bool} (h : walkQ ops n ((i, false) :: π) listed = some l') : (i < n ∧ Region.ready .any ops listed = [i]) ∧ walkQ ops n π (listed.setIfInBounds i true) = some l' := by
 simp only [walkQ] at h
 split at h
 ·rename_i hc
  simp only [Bool.and_eq_true, decide_eq_true_eq] at hc
  exact ⟨hc, h⟩
 ·cases h
theorem exDrawF_ok (hC : CxOK P C) (hn : X.n = C.n) (hm : X.m = 0) {l : List Oper} {h : Nat} (hs : Region.noSelect l.toArray = true) (hh : headB .any l.toArray h = true) {tail : TSt → Option β} {r : β} {rest : List (Nat × Bool)} {listed' : Array Bool} {K' : St → Prop} {s0 : TSt} :
  ∀ (π : List (Nat × Bool)) (listed : Array Bool) (s : TSt), walkQ l.toArray h π listed = some listed' → exDrawF C l tail π s = some r → WFr (dstsOf l) s0 s → (∀ s', tail s' = some r → WFr (dstsOf l) s0 s' → DrawJ P X l.toArray h rest listed' K' s'.toSt) → DrawJ P X l.toArray h (π ++ rest) listed K' s.toSt
 | [], listed, s, hw, hx, hf0, hk => by
  cases hw
  exact hk s hx hf0
 | (i, f) :: π, listed, s, hw, hx, hf0, hk => by
  show DrawJ P X l.toArray h ((i, f) :: (π ++ rest)) listed K' s.toSt
  unfold exDrawF at hx
  rw [nthOp_eq] at hx
  split at hx
  ·rename_i o hi
   have hi' : l.toArray[i]? = some o := by rw [List.getElem?_toArray]; exact hi
   have ho : o ∈ l := List.mem_of_getElem? hi
   have hdm : ∀ d, o.dst = some d → d ∈ dstsOf l := fun d hd => dstsOf_mem ho hd
   have ih : ∀ {s' : TSt}, WFr (dstsOf l) s0 s' → exDrawF C l tail π s' = some r → walkQ l.toArray h π (listed.setIfInBounds i true) = some listed' → DrawJ P X l.toArray h (π ++ rest) (listed.setIfInBounds i true) K' s'.toSt := fun {s'} hf h1 h2 =>
    exDrawF_ok hC hn hm hs hh π _ s' h2 h1 hf hk
   have step : ∀ {s' : TSt}, WFr (dstsOf l) s0 s' → (∀ a w, Rep X s'.toSt a w → Region.wanted o (yielded l.toArray a.tmps) = true) → exStepD C f o (exDrawF C l tail π) s' = some r → DrawJ P X l.toArray h ((i, f) :: (π ++ rest)) listed K' s'.toSt := by
    intro s' hf hwant hx
    unfold exStepD at hx
    split at hx
    ·rename_i hd _
     have hd' : dOK X.n o.dst := hn ▸ dOK_of hd
     obtain ⟨⟨⟨hw1, hw2⟩, hw3⟩, hw4⟩ := walkQ_t hw
     have val : ∀ {x : SV} {v : AV}, (∀ σ F a w, RepAt X σ F s'.toSt a w → ∃ u, (∀ w', Grow w w' → (execOp a.eval o).run P w' = .ok (.value u) w') ∧ RepV σ F w v u) → AV.le v (x.toAV s'.heap) → exDrawF C l tail π (s'.put o.dst x) = some r → DrawJ P X l.toArray h ((i, true) :: (π ++ rest)) listed K' s'.toSt := by
      intro x v hv hle hx
      refine DrawJ.take hi' hs hh hw1 hw2 hw3 hd' (x := x.toAV s'.heap) (fun σ F a w hat => ?_) ?_
      ·obtain ⟨u, h1, h2⟩ := hv σ F a w hat
       exact ⟨u, .inl ⟨hwant a w ⟨σ, F, hat⟩, h1⟩, RepV.le hle h2⟩
      ·rw [← TSt.put_ok]
       exact ih (WFr.put hf hdm _) hx hw4
     split at hx
     ·rename_i cnd p q ho'
      split at hx
      ·rename_i b hb
       obtain ⟨h1, h2⟩ := cb_some hx
       cases b with
       | true =>
        refine val (x := s'.ev p) (v := s'.toSt.ev p) (fun σ F a w hat => ?_) (by rw [TSt.ev_ok]; exact .refl _) (h1 rfl)
        have hv : a.eval cnd = .bool true := RepV.val ((show s'.toSt.ev cnd = AV.v (.bool true) by rw [TSt.ev_ok, boo_av hb]) ▸ hat.ev cnd)
        exact ⟨a.eval p, fun w' _ => by simp [execOp, ho', hv, asBool], hat.ev p⟩
       | false =>
        refine val (x := s'.ev q) (v := s'.toSt.ev q) (fun σ F a w hat => ?_) (by rw [TSt.ev_ok]; exact .refl _) (h2 rfl)
        have hv : a.eval cnd = .bool false := RepV.val ((show s'.toSt.ev cnd = AV.v (.bool false) by rw [TSt.ev_ok, boo_av hb]) ▸ hat.ev cnd)
        exact ⟨a.eval q, fun w' _ => by simp [execOp, ho', hv, asBool], hat.ev q⟩
      ·cases hx
     ·have ht := exT1_ok (T := C.T) (s := s') (op := o.op)
      cases hq : exT1 C.T s' o.op with
      | bad => rw [hq] at hx; cases hx
      | ok x =>
       rw [hq] at hx ht
       obtain ⟨c', x', he, hc, hle⟩ := ht
       exact val (fun σ F a w hat => exVal_ok hC.T hat he hc) hle hx
      | cond c x =>
       rw [hq] at hx ht
       obtain ⟨hc, hx⟩ := ck_some hx
       obtain ⟨c', x', he, hc, hle⟩ := ht hc
       exact val (fun σ F a w hat => exVal_ok hC.T hat he hc) hle hx
    ·rename_i hd _
     have hd' : dOK X.n o.dst := hn ▸ dOK_of hd
     obtain ⟨⟨hw1, hw2⟩, hw4⟩ := walkQ_f hw
     have fin : ∀ {q : R2}, TellC P X o s' q → useR s' o.dst (exDrawF C l tail π) q = some r → DrawJ P X l.toArray h ((i, false) :: (π ++ rest)) listed K' s'.toSt := by
      intro q hq hx
      refine DrawJ.only hi' hw1 hw2 (fun Qc next a w hnx hr => ?_)
      rw [if_pos (hwant a w hr)]
      refine ((useC_ok hdm hq hx).mono ?_) Qc next a w hnx hr
      rintro s2 ⟨s1, h1, h2, h3⟩
      exact DrawJ.from h1 (ih (hf.trans h3 (fun _ h => h) (fun _ h => h)) h2 hw4)
     split at hx
     ·rename_i fop args ts ho'; exact fin (call_ok hC hd' ho') hx
     ·rename_i e ho'; exact fin (alloc_ok hC.T hd' ho') hx
     ·rename_i e y ho'; exact fin (box_ok hC.T hd' ho') hx
     ·rename_i t parts ho'; exact fin (build_ok hC.T hd' ho') hx
     ·rename_i t len parts ho'; exact fin (buildSlice_ok hC.T hd' ho') hx
     ·rename_i t y z ho'; exact fin (makeSlice_ok hC.T hd' ho') hx
     ·rename_i t ho'; exact fin (makeMap_ok hC hd' ho') hx
     ·rename_i t x k b ho'; exact fin (lookup_ok hC hd' ho') hx
     ·cases hx
    ·cases hx
   unfold exGuardF at hx
   split at hx
   ·rename_i hg
    exact step hf0 (fun a w hr => by simp [Region.wanted, hg]) hx
   ·rename_i j want hg
    split at hx
    ·rename_i d hj
     have hj' : (l.toArray[j]?).bind (·.dst) = some d := by rw [List.getElem?_toArray, ← nthDst_eq]; exact hj
     have hdj := nthDst_mem hj
     have wf1 : ∀ (v : SV), WFr (dstsOf l) s0 (s.put (some d) v) := fun v => WFr.put hf0 (fun i hi => by cases hi; exact hdj) v
     have skip : ∀ {s' : TSt}, WFr (dstsOf l) s0 s' → dOK X.n o.dst → (∀ a w, Rep X s'.toSt a w → Region.wanted o (yielded l.toArray a.tmps) = false) → exDrawF C l tail π (s'.put o.dst undefS) = some r → DrawJ P X l.toArray h ((i, f) :: (π ++ rest)) listed K' s'.toSt := by
      intro s' hf hdst hno hx9
      have hfr : WFr (dstsOf l) s0 (s'.put o.dst undefS) := WFr.put hf hdm _
      cases f with
      | true =>
       obtain ⟨⟨⟨hw1, hw2⟩, hw3⟩, hw4⟩ := walkQ_t hw
       have h9 := ih hfr hx9 hw4
       rw [TSt.put_ok, undef_av] at h9
       exact DrawJ.take hi' hs hh hw1 hw2 hw3 hdst (fun σ F a w hat => ⟨undef, .inr ⟨hno a w ⟨σ, F, hat⟩, rfl⟩, .f _ _ (.v _)⟩) h9
      | false =>
       obtain ⟨⟨hw1, hw2⟩, hw4⟩ := walkQ_f hw
       refine DrawJ.only hi' hw1 hw2 (fun Qc next a w hnx hr => ?_)
       rw [if_neg (by simp [hno a w hr])]
       obtain ⟨σ, F, hr⟩ := hr
       have h9 := ih hfr hx9 hw4
       rw [TSt.put_ok, undef_av] at h9
       exact hnx _ _ _ h9 ⟨σ, F, hr.put hdst (.f _ _ (.v _))⟩ (Grow.refl w)
     split at hx
     ·rename_i hu hdn
      rw [Bool.and_eq_true] at hdn
      have hu' := isUndef_ok hu
      refine skip hf0 (hn ▸ dOK_of hdn.2) (fun a w hr => ?_) hx
      have h1 := yielded_undef hj' (hn ▸ of_decide_eq_true hdn.1) (by simp only [TSt.toSt, tget_ok]; rw [hu']; rfl) hr
      simp [Region.wanted, hg, h1]
     ·rename_i hu hdn
      rw [Bool.and_eq_true] at hdn
      have hdl : d < X.n := hn ▸ of_decide_eq_true hdn.1
      split at hx
      ·rename_i b hb
       obtain ⟨h1, h2⟩ := gd_some hx
       have known : ∀ {b' : Bool} {a : Act} {w : World}, Rep X (s.put (some d) (.cst (.bool b'))).toSt a w → yielded l.toArray a.tmps j = some b' := fun {b' a w} hr =>
        yielded_known hj' hdl (s := (s.put (some d) (.cst (.bool b'))).toSt) (by simp only [TSt.toSt, tget_ok, TSt.put, tget, if_true]; rfl) hr
       by_cases e : b = want
       ·refine DrawJ.from (know_imp (by rw [hb, e])) (step (wf1 _) (fun a w hr => ?_) (h1 e))
        simp [Region.wanted, hg, known hr]
       ·have e' : b = !want := by cases b <;> cases want <;> first | rfl | exact absurd rfl e
        refine DrawJ.from (know_imp (b := !want) (by rw [hb, e'])) (skip (wf1 _) (hn ▸ dOK_of hdn.2) (fun a w hr => ?_) (h2 e'))
        simp [Region.wanted, hg, known hr]
      ·cases hx
     ·cases hx
    ·cases hx
  ·cases hx
end
section
variable {P : Program} {C : Cx} {X : Ctx} {σ : Nat → Option Blk} {F : Nat → Prop} {a : Act} {w : World} {s : TSt} {o : Oper} {β : Type} {ops : Array Oper} {n : Nat} {rest : List (Nat × Bool)} {listed : Array Bool} {K : St → Prop}
theorem DrawJ.two {s : St} {i j : Nat} {oi oj : Oper} {rest' : List (Nat × Bool)} (hi : ops[i]? = some oi) (hj : ops[j]? = some oj) (hin : i < n) (hjn : j < n) (hr : Region.ready .any ops listed = [i, j]) (hgi : oi.guard = none) (hgj : oj.guard = none) (hl : rest.length = rest'.length)
  (h1 : opWPG P X oi (DrawJ P X ops n rest (listed.setIfInBounds i true) K) s) (h2 : opWPG P X oj (DrawJ P X ops n rest' (listed.setIfInBounds j true) K) s) : DrawJ P X ops n ((i, false) :: rest) listed K s := by
 intro Qc a w hQ hK hrep inv
 refine ⟨by rw [hr]; simp, fun q hq => ?_⟩
 rw [hr] at hq
 have hq' : q ∈ Region.ready .any ops listed := by rw [hr]; exact hq
 have one : ∀ {o : Oper} {π : List (Nat × Bool)}, ops[q]? = some o → o.guard = none → q < n → π.length = rest.length → opWPG P X o (DrawJ P X ops n π (listed.setIfInBounds q true) K) s → q < n ∧ wpOp P ops Qc q (fun a' w' => Grow w w' ∧ anyT P .any ops Qc n (fun listed a w => Region.seqB .any ops (ops.size - n) n listed = true ∧ wpList P ops Qc (ops.toList.drop n) a w) rest.length (listed.setIfInBounds q true) a' w' (Grow w)) a w := by
  intro o π ho hg hqn hlen hw
  refine ⟨hqn, ?_⟩
  have h3 := hw Qc (fun a' w' => Grow w w' ∧ anyT P .any ops Qc n (fun listed a w => Region.seqB .any ops (ops.size - n) n listed = true ∧ wpList P ops Qc (ops.toList.drop n) a w) rest.length (listed.setIfInBounds q true) a' w' (Grow w)) a w
   (fun s' a' w' hd hr' hgr => ⟨hgr, by rw [← hlen]; exact anyT_mono (fun w2 h2 => hgr.trans h2) _ _ _ _ (hd Qc a' w' hQ hK hr' (inv.set hq' hqn))⟩) hrep
  unfold wpOp
  simp only [ho]
  rw [if_pos (by simp [Region.wanted, hg])]
  exact .inl h3
 rcases List.mem_cons.1 hq with rfl | hq
 ·exact one hi hgi hin rfl h1
 ·rw [List.mem_singleton] at hq
  subst hq
  exact one hj hgj hjn hl.symm h2
end
def draw2B (ops : Array Oper) (n : Nat) (π : List (Nat × Bool)) (i : Nat) (π1 : List (Nat × Bool)) (j : Nat) (π2 : List (Nat × Bool)) : Bool :=
 Region.noSelect ops && headB .any ops n && decide (π.length + (1 + π1.length) = n) && decide (π1.length = π2.length) && decide (n ≤ ops.size) && decide (i < n) && decide (j < n) && (match walkQ ops n π (Array.replicate ops.size false) with
  | some l => decide (Region.ready .any ops l = [i, j]) && walkB ops n π1 (l.setIfInBounds i true) && walkB ops n π2 (l.setIfInBounds j true)
  | none => false)
def regB (ops : Array Oper) (d : Nat × List (Nat × Bool) × Option (Nat × List (Nat × Bool) × Nat × List (Nat × Bool))) : Bool := match d.2.2 with
 | none => drawB ops d.1 d.2.1
 | some (i, π1, j, π2) => draw2B ops d.1 d.2.1 i π1 j π2
def exitB : Exit → Exit → Bool
 | .normal, .normal => true
 | .ret, .ret => true
 | .exit i, .exit j => decide (i = j)
 | _, _ => false
theorem exitB_ok {e e' : Exit} (h : exitB e e' = true) : e = e' := by
 unfold exitB at h
 split at h
 ·rfl
 ·rfl
 ·rw [of_decide_eq_true h]
 ·cases h
def knownB (env : List (Nat × SV)) : List (Nat × SK) → Bool
 | [] => true
 | (i, _) :: r => (match tget env i with | .any => false | _ => knownB env r)
def chkInv (env : List (Nat × SV)) : List (Nat × SK) → Bool
 | [] => true
 | (i, .val _) :: r => (match tget env i with | .val _ _ => chkInv env r | .cst _ => chkInv env r | _ => false)
 | (_, .rp _) :: r => chkInv env r
 | (i, .fn f) :: r => (match tget env i with | .fn f' [] => decide (f' = f) && chkInv env r | _ => false)
 | (_, .own _ _) :: _ => false
 | (_, .que _ _) :: _ => false
 | (_, .ptr _ _) :: _ => false
 | (_, .nm _ _) :: _ => false
def sumD : List (Exit × Shape) → Type
 | [] => Empty
 | [p] => denL p.2.tys
 | p :: q :: r => denL p.2.tys ⊕ sumD (q :: r)
noncomputable def findX {β : Type} : (l : List (Exit × Shape)) → Exit → TSt → (sumD l → Option β) → Option β
 | [], _, _, _ => none
 | [p], e, s, k => (match exitB p.1 e with
  | true => renF p.2.slots s fun s => decS p.2 s k
  | false => none)
 | p :: q :: r, e, s, k => (match exitB p.1 e with
  | true => renF p.2.slots s fun s => decS p.2 s fun x => k (.inl x)
  | false => findX (q :: r) e s fun y => k (.inr y))
def bindS {β : Type} : (l : List (Exit × Shape)) → sumD l → (Exit → (sh : Shape) → denL sh.tys → Option β) → Option β
 | [], _, _ => none
 | [p], x, k => k p.1 p.2 x
 | p :: q :: r, x, k => caseS x (fun a => k p.1 p.2 a) (fun b => bindS (q :: r) b k)
structure Ent where
 pre : List PA
 inv : List (Nat × SK)
 car : Shape
 exits : List (Exit × Shape)
 step : denL (slotTys inv) → denL car.tys → Option (denL car.tys ⊕ sumD exits)
def Ent.head (ent : Ent) (iv : denL (slotTys ent.inv)) (x : denL ent.car.tys) : TSt := encS ent.car x (encI ent.inv iv)
noncomputable def Ent.kd (ent : Ent) (e : Exit) (s : TSt) : Option (denL ent.car.tys ⊕ sumD ent.exits) := match knownB s.env ent.inv with
 | true => (match exitB .normal e with
  | true => renF ent.car.slots s fun s => decS ent.car s fun x => some (.inl x)
  | false => findX ent.exits e s fun y => some (.inr y))
 | false => none
noncomputable def runL {β : Type} (C : Cx) (ent : Ent) (K : Exit → TSt → Option β) (s : TSt) : Option β := match preF C.TY ent.pre s with
 | some s => renF ent.car.slots s fun s => (match chkInv s.env ent.inv, asTL [] (slotTys ent.inv) (colSlots s.env ent.inv) with
  | true, some iv => decS ent.car s fun x => ob (loopX (ent.step iv) x) fun r => bindS ent.exits r fun e sh a => K e (encS sh a (encI ent.inv iv))
  | _, _ => none)
 | none => none
def Plan.ids : Plan → List Nat
 | .alt i _ b => i :: b.ids
 | _ => []
def planB (T : Tab) (ops : Array Oper) (n : Nat) : Plan → Bool → Nat → Array Bool → Bool
 | .done, m, f, listed => !m && decide (f = 0) && Region.seqB .any ops (ops.size - n) n listed
 | .take i r, m, f, listed => !m && (match f with
  | 0 => false
  | f + 1 => decide (i < n) && (Region.ready .any ops listed).contains i && Region.free .any ops listed i && (match ops[i]? with | some o => stillO T o.op | none => false) && planB T ops n r false f (listed.setIfInBounds i true))
 | .alt i a b, m, f, listed => (m || decide (Region.ready .any ops listed = i :: b.ids)) && (match f with
  | 0 => false
  | f' + 1 => decide (i < n) && planB T ops n a false f' (listed.setIfInBounds i true) && planB T ops n b true f listed)
 | .no, m, _, _ => m
def regP (T : Tab) (ops : Array Oper) (d : Nat × Plan) : Bool :=
 Region.noSelect ops && headB .any ops d.1 && decide (d.1 ≤ ops.size) && planB T ops d.1 d.2 false d.1 (Array.replicate ops.size false)
noncomputable def exF {β : Type} (C : Cx) (L : List Nat → Option Ent) : Code → List Nat → (Exit → TSt → Option β) → TSt → Option β
 | .skip, _, K, s => K .normal s
 | .region id ops drawn, _, K, s => (match drawn with
  | false => exOpsF C ops.toList ops.toList (K .normal) s
  | true => (match C.D id with
   | some d => (match regB ops d with
    | true => exRegF C ops.toList d (K .normal) s
    | false => none)
   | none => (match C.DP id with
    | some d => (match regP C.T ops d with
     | true => exPlanF C ops.toList (exOpsF C ops.toList (dropL ops.toList d.1) (K .normal)) d.2 s
     | false => none)
    | none => none)))
 | .seq a b, p, K, s => exF C L a (0 :: p) (fun e s => match e with
  | .normal => exF C L b (1 :: p) K s
  | e => K e s) s
 | .cond c a b, p, K, s => (match (s.ev c).boo with
  | some t => cb t (exF C L a (0 :: p) K s) (exF C L b (1 :: p) K s)
  | none => none)
 | .block id b, p, K, s => exF C L b (0 :: p) (fun e s => match e with
  | .exit i => (match decide (i = id) with
   | true => K .normal s
   | false => K (.exit i) s)
  | e => K e s) s
 | .exit id, _, K, s => K (.exit id) s
 | .ret, _, K, s => K .ret s
 | .loop b, p, K, s => (match L p with
  | some ent => runL C ent K s
  | none => none)
 | _, _, _, _ => none
end Go.Proofs.YtpeiomhgaembaaaDoor.Eng
set_option linter.unusedVariables false
set_option linter.unusedSimpArgs false
namespace Go.Proofs.YtpeiomhgaembaaaDoor.Eng
open Go Go.RowKit
theorem swapL_eq {α : Type} : ∀ (l : List α) (L i : Nat), L + 1 < l.length → (swapL l L)[i]? = l[swpN L i]?
 | a :: b :: r, 0, i, _ => by
  match i with
  | 0 => rfl
  | 1 => rfl
  | i + 2 =>
   have : swpN 0 (i + 2) = i + 2 := by simp [swpN]
   rw [this]; rfl
 | [a], 0, _, h => by simp at h
 | [], _, _, h => by simp at h
 | a :: r, L + 1, i, h => by
  have h1 : L + 1 < r.length := by simpa using h
  have e : swapL (a :: r) (L + 1) = a :: swapL r L := by cases r <;> rfl
  rw [e]
  match i with
  | 0 => simp [swpN]
  | i + 1 =>
   have e2 : swpN (L + 1) (i + 1) = swpN L i + 1 := by
    unfold swpN
    by_cases h2 : i = L
    ·simp [h2]
    ·by_cases h3 : i = L + 1
     ·simp [h3]
     ·simp [h2, h3]
   rw [e2, List.getElem?_cons_succ, List.getElem?_cons_succ]
   exact swapL_eq r L i h1
theorem swapL_len {α : Type} : ∀ (l : List α) (L : Nat), (swapL l L).length = l.length
 | a :: b :: r, 0 => rfl
 | [a], 0 => rfl
 | [], 0 => rfl
 | [], _ + 1 => rfl
 | a :: r, L + 1 => by
  have e : swapL (a :: r) (L + 1) = a :: swapL r L := by cases r <;> rfl
  rw [e, List.length_cons, List.length_cons, swapL_len r L]
theorem swpN_swpN (L i : Nat) : swpN L (swpN L i) = i := by
 unfold swpN
 by_cases h2 : i = L
 ·simp [h2]
 ·by_cases h3 : i = L + 1
  ·simp [h3]
  ·simp [h2, h3]
theorem swpN_inj {L i j : Nat} (h : swpN L i = swpN L j) : i = j := by rw [← swpN_swpN L i, h, swpN_swpN]
theorem swpN_ge {L i n : Nat} (hL : L + 1 < n) (h : n ≤ i) : swpN L i = i := by
 unfold swpN
 simp [show i ≠ L by omega, show i ≠ L + 1 by omega]
def swpA (L : Nat) : AV → AV
 | .own i sz off len => .own (swpN L i) sz off len
 | .ptr i k sz j => .ptr (swpN L i) k sz j
 | .nm i k => .nm (swpN L i) k
 | x => x
section
variable {P : Program} {C : Cx} {X : Ctx} {σ : Nat → Option Blk} {F : Nat → Prop} {a : Act} {w : World} {β : Type}
theorem Rep.swap {s : St} (hm : X.m = 0) {L : Nat} (hL : L + 1 < s.heap.length) (hr : Rep X s a w) : Rep X ⟨envSub (swpA L) s.env, swapL (s.heap.map (AObj.sub (swpA L))) L⟩ a w := by
 obtain ⟨σ, F, hr⟩ := hr
 have hσ : ∀ i, (fun i => σ (swpN L i)) (swpN L i) = σ i := fun i => by simp only [swpN_swpN]
 have hV : ∀ x y, RepV σ F w x y → RepV (fun i => σ (swpN L i)) F w (x.sub (swpA L)) y := by
  intro x y h
  refine h.sub (fun _ _ h => h) (fun id sz off len y h => ?_) (fun id i sz j y h => ?_) (fun id q y h => ?_)
  ·simp only [swpA]
   cases h with
   | f _ _ h => cases h
   | own0 _ _ h => exact .own0 _ _ ((hσ _).trans h)
   | own _ _ _ _ g b c n h hn hc => exact .own _ _ _ _ g b c n ((hσ _).trans h) hn hc
   | ownz _ _ _ g b c n a h hn hc => exact .ownz _ _ _ g b c n a ((hσ _).trans h) hn hc
  ·simp only [swpA]
   cases h with
   | f _ _ h => cases h
   | ptr _ _ _ _ g b c n h => exact .ptr _ _ _ _ g b c n ((hσ _).trans h)
  ·simp only [swpA]
   cases h with
   | f _ _ h => cases h
   | nm _ _ gs V h h1 => exact .nm _ _ gs V ((hσ _).trans h) h1
 have hlen : (swapL (s.heap.map (AObj.sub (swpA L))) L).length = s.heap.length := by rw [swapL_len, List.length_map]
 refine ⟨fun i => σ (swpN L i), F, hr.defers, hr.size, fun i => by rw [envGet_sub]; exact hV _ _ (hr.env i), ⟨fun id ob ho => ?_, fun id hid => ?_, fun id id' g h1 h2 => swpN_inj (hr.heap.inj _ _ _ h1 h2), fun id g h => hr.heap.lt _ _ h, hr.heap.flt⟩, hr.keep, fun id g h => hr.own _ _ h, hr.fnew, fun id hid => absurd (hm ▸ hid : id < 0) (Nat.not_lt_zero _), by rw [hm]; exact Nat.zero_le _⟩
 ·rw [swapL_eq _ _ _ (by rw [List.length_map]; exact hL), List.getElem?_map, Option.map_eq_some_iff] at ho
  obtain ⟨q, hq, rfl⟩ := ho
  exact (hr.heap.obj _ _ hq).ren rfl (fun _ _ h => h) (fun _ _ => rfl) hV
 ·rw [hlen] at hid
  simp only [swpN_ge hL hid]
  exact hr.heap.out _ hid
theorem swap_imp {s : TSt} (hm : X.m = 0) {L : Nat} (hL : L + 1 < s.heap.length) : Imp X s.toSt (s.swap L).toSt := by
 intro a w hr
 have h1 := Rep.swap hm (L := L) (by simpa [TSt.toSt] using hL) hr
 have hrow : ∀ i, rowLen (s.swap L).heap (swpN L i) = rowLen s.heap i := fun i => by
  unfold rowLen
  rw [nth_eq, nth_eq]
  simp only [TSt.swap]
  rw [swapL_eq _ _ _ (by rw [List.length_map]; exact hL), swpN_swpN, List.getElem?_map]
  cases s.heap[i]? with
  | none => rfl
  | some q => cases q <;> rfl
 have ok : SubOK (swpA L) (swpS L) s.heap (s.swap L).heap := by
  refine ⟨fun i sz => ?_, fun i sz off len => .refl _, fun i k sz j => .refl _, fun i k => .refl _⟩
  simp only [swpA, swpS, SV.toAV]
  rw [hrow]; exact .refl _
 refine h1.weak ⟨fun i => ?_, ?_, fun i o o' ho ho' => ?_⟩
 ·simp only [envGet_sub, TSt.toSt, tget_ok, TSt.swap]
  rw [tget_map (SV.sub (swpS L)) rfl]
  exact sub_le ok _
 ·simp [TSt.toSt, TSt.swap, swapL_len]
 ·simp only [TSt.toSt] at ho ho'
  rw [swapL_eq _ _ _ (by simpa using hL), List.getElem?_map, List.getElem?_map] at ho
  simp only [List.getElem?_map] at ho'
  have e : (s.swap L).heap[i]? = (s.heap[swpN L i]?).map (TObj.sub (swpS L)) := by
   simp only [TSt.swap]
   rw [swapL_eq _ _ _ (by rw [List.length_map]; exact hL), List.getElem?_map]
  rw [e] at ho'
  cases hq : s.heap[swpN L i]? with
  | none => rw [hq] at ho; cases ho
  | some q =>
   rw [hq] at ho ho'
   simp only [Option.map_some] at ho ho'
   cases ho; cases ho'
   cases q with
   | box e cs => exact ⟨rfl, subL_le ok cs⟩
   | row e t xs => exact ObjLe.refl _
   | mapo t es => exact ObjLe.refl _
   | dead => trivial
theorem swap_fr (W : List Nat) (s : TSt) (L : Nat) : WFr W s (s.swap L) := by
 intro i _
 simp only [TSt.swap]
 rw [tget_map (SV.sub (swpS L)) rfl]
 exact ⟨fun h => by rw [h]; rfl, fun t x h => .inr (by rw [h]; rfl), fun t x h => .inr (by rw [h]; rfl), fun g h => .inr (by rw [h]; rfl)⟩
theorem stepD_ok (hC : CxOK P C) {o : Oper} {W : List Nat} (hd : ∀ d, o.dst = some d → d ∈ W) (hdst : dB C.n o.dst = true → dOK X.n o.dst) {s : TSt} {K : TSt → Option β} {r : β} (h : exStepD C false o K s = some r) : opWPG P X o (lk X K r W s) s.toSt := by
 unfold exStepD at h
 split at h
 ·rename_i e; cases e
 ·rename_i hb _
  have hd' := hdst hb
  split at h
  ·rename_i fop args ts ho'; exact useC_ok hd (call_ok hC hd' ho') h
  ·rename_i e ho'; exact useC_ok hd (alloc_ok hC.T hd' ho') h
  ·rename_i e y ho'; exact useC_ok hd (box_ok hC.T hd' ho') h
  ·rename_i t parts ho'; exact useC_ok hd (build_ok hC.T hd' ho') h
  ·rename_i t len parts ho'; exact useC_ok hd (buildSlice_ok hC.T hd' ho') h
  ·rename_i t y z ho'; exact useC_ok hd (makeSlice_ok hC.T hd' ho') h
  ·rename_i t ho'; exact useC_ok hd (makeMap_ok hC hd' ho') h
  ·rename_i t x k b ho'; exact useC_ok hd (lookup_ok hC hd' ho') h
  ·cases h
 ·cases h
theorem walkB_Q {ops : Array Oper} {n : Nat} : ∀ (π : List (Nat × Bool)) (listed : Array Bool), walkB ops n π listed = true → ∃ l', walkQ ops n π listed = some l' ∧ walkB ops n [] l' = true
 | [], listed, h => ⟨listed, rfl, h⟩
 | (i, true) :: π, listed, h => by
  simp only [walkB, Bool.and_eq_true] at h
  obtain ⟨l', h1, h2⟩ := walkB_Q π _ h.2
  refine ⟨l', ?_, h2⟩
  simp only [walkQ]
  rw [show (decide (i < n) && (Region.ready .any ops listed).contains i && Region.free .any ops listed i) = true by simp only [Bool.and_eq_true]; exact h.1]
  exact h1
 | (i, false) :: π, listed, h => by
  simp only [walkB, Bool.and_eq_true] at h
  obtain ⟨l', h1, h2⟩ := walkB_Q π _ h.2
  refine ⟨l', ?_, h2⟩
  simp only [walkQ]
  rw [show (decide (i < n) && decide (Region.ready .any ops listed = [i])) = true by simp only [Bool.and_eq_true]; exact h.1]
  exact h1
theorem exRegF_ok (hC : CxOK P C) (hn : X.n = C.n) (hm : X.m = 0) {l : List Oper} {d : Nat × List (Nat × Bool) × Option (Nat × List (Nat × Bool) × Nat × List (Nat × Bool))} {K : TSt → Option β} {s : TSt} {r : β} (hB : regB l.toArray d = true) (h : exRegF C l d K s = some r) :
  ∃ π, π.length = d.1 ∧ d.1 ≤ l.toArray.size ∧ Region.noSelect l.toArray = true ∧ headB .any l.toArray d.1 = true ∧ DrawJ P X l.toArray d.1 π (Array.replicate l.toArray.size false) (lk X K r (dstsOf l) s) s.toSt := by
 obtain ⟨n, π, t⟩ := d
 have tailOk : ∀ {listed : Array Bool} {s' : TSt}, walkB l.toArray n [] listed = true → exOpsF C l (dropL l n) K s' = some r → WFr (dstsOf l) s s' → DrawJ P X l.toArray n [] listed (lk X K r (dstsOf l) s) s'.toSt := by
  intro listed s' hw hx hf
  refine DrawJ.nil hw ?_
  rw [dropL_eq] at hx
  have h1 := exOpsF_ok hC hn hm l (l.drop n) K s' r (fun o ho => List.mem_of_mem_drop ho) hx
  intro Qc a w hK hr
  have h2 := h1 Qc a w (fun s2 a' w' ⟨s3, h3, h4, h5⟩ hr' => hK s2 a' w' ⟨s3, h3, h4, hf.trans h5 (fun _ h => h) (fun _ h => h)⟩ hr') hr
  simpa using h2
 cases t with
 | none =>
  simp only [regB, drawB, Bool.and_eq_true, decide_eq_true_eq] at hB
  obtain ⟨⟨⟨⟨hsel, hhd⟩, hl⟩, hn'⟩, hw⟩ := hB
  obtain ⟨l', hw1, hw2⟩ := walkB_Q _ _ hw
  refine ⟨π, hl, hn', hsel, hhd, ?_⟩
  have h1 := exDrawF_ok (r := r) (rest := []) (K' := lk X K r (dstsOf l) s) (s0 := s) hC hn hm hsel hhd π _ s hw1 h (.refl _ _) (fun s' hs' hf => tailOk hw2 hs' hf)
  rwa [List.append_nil] at h1
 | some t =>
  obtain ⟨i, π1, j, π2⟩ := t
  simp only [regB, draw2B, Bool.and_eq_true, decide_eq_true_eq] at hB
  obtain ⟨⟨⟨⟨⟨⟨⟨hsel, hhd⟩, hl⟩, hl2⟩, hn'⟩, hi⟩, hj⟩, hw⟩ := hB
  split at hw
  ·rename_i l' hw1
   simp only [Bool.and_eq_true, decide_eq_true_eq] at hw
   obtain ⟨⟨hr, hwi⟩, hwj⟩ := hw
   obtain ⟨li, hi1, hi2⟩ := walkB_Q _ _ hwi
   obtain ⟨lj, hj1, hj2⟩ := walkB_Q _ _ hwj
   refine ⟨π ++ (i, false) :: π1, by simp; omega, hn', hsel, hhd, ?_⟩
   refine exDrawF_ok (r := r) (K' := lk X K r (dstsOf l) s) (s0 := s) hC hn hm hsel hhd π _ s hw1 h (.refl _ _) (fun s' hs' hf => ?_)
   simp only [exTwoF, nthOp_eq] at hs'
   split at hs'
   ·rename_i oi oj hoi hoj
    split at hs'
    ·rename_i hgi hgj
     obtain ⟨h1, h2⟩ := both_some hs'
     have hoi' : l.toArray[i]? = some oi := by rw [List.getElem?_toArray]; exact hoi
     have hoj' : l.toArray[j]? = some oj := by rw [List.getElem?_toArray]; exact hoj
     have mi : oi ∈ l := List.mem_of_getElem? hoi
     have mj : oj ∈ l := List.mem_of_getElem? hoj
     refine DrawJ.two (rest' := π2) hoi' hoj' hi hj hr hgi hgj hl2 ?_ ?_
     ·refine (stepD_ok hC (fun d hd => dstsOf_mem mi hd) (fun hb => hn ▸ dOK_of hb) h1).mono ?_
      rintro s2 ⟨s3, h3, h4, h5⟩
      have h6 := exDrawF_ok (r := r) (rest := []) (K' := lk X K r (dstsOf l) s) (s0 := s) hC hn hm hsel hhd π1 _ s3 hi1 h4 (hf.trans h5 (fun _ h => h) (fun _ h => h)) (fun s' hs' hf => tailOk hi2 hs' hf)
      rw [List.append_nil] at h6
      exact DrawJ.from h3 h6
     ·refine (stepD_ok hC (fun d hd => dstsOf_mem mj hd) (fun hb => hn ▸ dOK_of hb) h2).mono ?_
      rintro s2 ⟨s3, h3, h4, h5⟩
      have h6 := exDrawF_ok (r := r) (rest := []) (K' := lk X K r (dstsOf l) s) (s0 := s) hC hn hm hsel hhd π2 _ s3 hj1 h4 (hf.trans h5 (fun _ h => h) (fun _ h => h)) (fun s' hs' hf => by
       unfold swapF at hs'
       split at hs'
       ·rename_i hle
        exact DrawJ.from (swap_imp hm (Nat.le_of_ble_eq_true hle)) (tailOk hj2 hs' (hf.trans (swap_fr _ _ _) (fun _ h => h) (fun _ h => h)))
       ·exact tailOk hj2 hs' hf)
      rw [List.append_nil] at h6
      exact DrawJ.from h3 h6
    ·cases hs'
   ·cases hs'
  ·cases hw
theorem WP.draw2 {id : Nat} {Q : Exit → St → Prop} {l : List Oper} {n : Nat} {π : List (Nat × Bool)} {s : St} (hm : P.follows .mixedOrders = true) (hl : π.length = n) (hn : n ≤ l.toArray.size)
  (hQ : ∀ c s, ¬ Q (.panic c) s)
  (h : DrawJ P X l.toArray n π (Array.replicate l.toArray.size false) (Q .normal) s) : WP P X (.region id l.toArray true) Q s := by
 intro a w hr
 refine wp_region_any hm ?_
 have inv0 : HeadInv .any l.toArray n (Array.replicate l.toArray.size false) :=
  ⟨by simp, fun j oj _ hl => (by rw [getD_replicate_false] at hl; cases hl), fun t _ ht => getD_in (by simpa using ht) (getD_replicate_false _ _)⟩
 have H := h (fun e a w => ∃ s, Q e s ∧ Rep X s a w) a { w with drawn := w.drawn + 1 } (fun c a b w ⟨s, h1, _⟩ => absurd h1 (hQ c s)) (fun s' a' w' h1 h2 => ⟨s', h1, h2⟩) hr.drawn inv0
 have hsz : l.toArray.size = π.length + (l.toArray.size - n) := by omega
 have H2 := any_of_T (g := l.toArray.size - n) (fun listed a' w' hL => by
  have := wpAny_of_seq (md := .any) (Q' := fun e a w => ∃ s, Q e s ∧ Rep X s a w) (l.toArray.toList.drop n) n listed a' w' (fun j => by simp [List.getElem?_drop]) (by simpa using hL.1) hL.2
  simpa using this) _ _ _ _ H
 rwa [← hsz] at H2
end
end Go.Proofs.YtpeiomhgaembaaaDoor.Eng
set_option linter.unusedVariables false
set_option linter.unusedSimpArgs false
namespace Go.Proofs.YtpeiomhgaembaaaDoor.Eng
open Go Go.RowKit
section
variable {P : Program} {C : Cx} {X : Ctx} {β : Type} {ops : Array Oper} {n : Nat} {listed : Array Bool} {K : St → Prop} {s : St}
def DrawT (P : Program) (X : Ctx) (ops : Array Oper) (n f : Nat) (listed : Array Bool) (K : St → Prop) (s : St) : Prop :=
 ∀ (Qc : Exit → Act → World → Prop) a w, (∀ c a b w, Qc (.panic c) a w → Qc (.panic c) b w) → (∀ s' a' w', K s' → Rep X s' a' w' → Qc .normal a' w') → Rep X s a w → HeadInv .any ops n listed →
  anyT P .any ops Qc n (fun listed a w => Region.seqB .any ops (ops.size - n) n listed = true ∧ wpList P ops Qc (ops.toList.drop n) a w) f listed a w (fun _ => True)
theorem DrawT.nil (hw : Region.seqB .any ops (ops.size - n) n listed = true) (h : WPO P X ops (ops.toList.drop n) K s) : DrawT P X ops n 0 listed K s := by
 intro Qc a w hQ hK hr inv
 exact ⟨hw, h Qc a w hK hr⟩
theorem DrawT.from {s' : St} {f : Nat} (h : ∀ a w, Rep X s a w → Rep X s' a w) (k : DrawT P X ops n f listed K s') : DrawT P X ops n f listed K s :=
 fun Qc a w hQ hK hr inv => k Qc a w hQ hK (h a w hr) inv
theorem DrawT.take {i f : Nat} {o : Oper} (hi : ops[i]? = some o) (hs : Region.noSelect ops = true) (hh : headB .any ops n = true) (hin : i < n) (hr : (Region.ready .any ops listed).contains i = true) (hf : Region.free .any ops listed i = true)
  {x : AV} (hd : dOK X.n o.dst) (hy : ∀ σ F a w, RepAt X σ F s a w → ∃ v, YieldsIf P ops (fun _ => True) o v a ∧ RepV σ F w x v) (h : DrawT P X ops n f (listed.setIfInBounds i true) K (s.put o.dst x)) : DrawT P X ops n (f + 1) listed K s := by
 intro Qc a w hQ hK hrep inv
 obtain ⟨σ, F, hat⟩ := hrep
 obtain ⟨v, hv, hx⟩ := hy σ F a w hat
 have hr' : i ∈ Region.ready .any ops listed := by simpa using hr
 exact anyT_first hi (Region.noSelect_spec hs) hh hin (fun _ _ _ h => seqB_done h) (fun c a w h => hQ c _ _ w h) f listed a w inv (Region.free_spec hi hf) hr' hv trivial
  (h Qc _ w hQ hK ⟨σ, F, hat.put hd hx⟩ (inv.set hr' hin))
def Branch (P : Program) (X : Ctx) (ops : Array Oper) (n f : Nat) (listed : Array Bool) (K : St → Prop) (s : St) (i : Nat) : Prop :=
 i < n ∧ ∃ o, ops[i]? = some o ∧ ∀ (Qc : Exit → Act → World → Prop) (next : Act → World → Prop) a w, (∀ s' a' w', DrawT P X ops n f (listed.setIfInBounds i true) K s' → Rep X s' a' w' → next a' w') → Rep X s a w →
  if Region.wanted o (yielded ops a.tmps) then o.wp P a w next Qc else next (a.put o.dst undef) w
theorem DrawT.all {f : Nat} (hne : Region.ready .any ops listed ≠ []) (h : ∀ i ∈ Region.ready .any ops listed, Branch P X ops n f listed K s i) : DrawT P X ops n (f + 1) listed K s := by
 intro Qc a w hQ hK hrep inv
 refine ⟨hne, fun j hj => ?_⟩
 obtain ⟨hjn, o, ho, hb⟩ := h j hj
 refine ⟨hjn, ?_⟩
 have h1 := hb Qc (fun a' w' => True ∧ anyT P .any ops Qc n (fun listed a w => Region.seqB .any ops (ops.size - n) n listed = true ∧ wpList P ops Qc (ops.toList.drop n) a w) f (listed.setIfInBounds j true) a' w' (fun _ => True)) a w
  (fun s' a' w' hd hr' => ⟨trivial, hd Qc a' w' hQ hK hr' (inv.set hj hjn)⟩) hrep
 unfold wpOp
 simp only [ho]
 split
 ·rename_i hw; rw [if_pos hw] at h1; exact .inl h1
 ·rename_i hw; rw [if_neg hw] at h1; exact h1
theorem Branch.from {s' : St} {f i : Nat} (h : ∀ a w, Rep X s a w → Rep X s' a w) (k : Branch P X ops n f listed K s' i) : Branch P X ops n f listed K s i := by
 obtain ⟨h1, o, h2, h3⟩ := k
 exact ⟨h1, o, h2, fun Qc next a w hn hr => h3 Qc next a w hn (h a w hr)⟩
end
section
variable {P : Program} {C : Cx} {X : Ctx} {β : Type}
theorem still_cond (hC : CxOK P C) (hn : X.n = C.n) {l : List Oper} {o : Oper} {s' : TSt} {K : TSt → Option β} {r : β} (hst : stillO C.T o.op = true) (hx : exStepD C true o K s' = some r) :
  dOK X.n o.dst ∧ ((∃ (x : SV) (v : AV), (∀ σ F a w, RepAt X σ F s'.toSt a w → ∃ u, (∀ w', (execOp a.eval o).run P w' = .ok (.value u) w') ∧ RepV σ F w v u) ∧ AV.le v (x.toAV s'.heap) ∧ K (s'.put o.dst x) = some r)) := by
 unfold exStepD at hx
 split at hx
 ·rename_i hd _
  refine ⟨hn ▸ dOK_of hd, ?_⟩
  split at hx
  ·rename_i cnd p q ho'
   split at hx
   ·rename_i b hb
    obtain ⟨h1, h2⟩ := cb_some hx
    cases b with
    | true =>
     refine ⟨s'.ev p, s'.toSt.ev p, fun σ F a w hat => ?_, by rw [TSt.ev_ok]; exact .refl _, h1 rfl⟩
     have hv : a.eval cnd = .bool true := RepV.val ((show s'.toSt.ev cnd = AV.v (.bool true) by rw [TSt.ev_ok, boo_av hb]) ▸ hat.ev cnd)
     exact ⟨a.eval p, fun w' => by simp [execOp, ho', hv, asBool], hat.ev p⟩
    | false =>
     refine ⟨s'.ev q, s'.toSt.ev q, fun σ F a w hat => ?_, by rw [TSt.ev_ok]; exact .refl _, h2 rfl⟩
     have hv : a.eval cnd = .bool false := RepV.val ((show s'.toSt.ev cnd = AV.v (.bool false) by rw [TSt.ev_ok, boo_av hb]) ▸ hat.ev cnd)
     exact ⟨a.eval q, fun w' => by simp [execOp, ho', hv, asBool], hat.ev q⟩
   ·cases hx
  ·have ht := exT1_ok (T := C.T) (s := s') (op := o.op)
   have fin : ∀ {x : SV} {c' : Prop} {x' : AV}, exVal C.T s'.toSt o.op = some (c', x') → c' → AV.le x' (x.toAV s'.heap) → K (s'.put o.dst x) = some r → _ := fun {x c' x'} he hc hle hk =>
    (⟨x, x', fun σ F a w hat => by
     obtain ⟨u, h1, h2⟩ := exVal_okR (R := fun _ _ => True) (.inr hst) hC.T hat he hc
     exact ⟨u, fun w' => h1 w' trivial, h2⟩, hle, hk⟩ : ∃ (x : SV) (v : AV), (∀ σ F a w, RepAt X σ F s'.toSt a w → ∃ u, (∀ w', (execOp a.eval o).run P w' = .ok (.value u) w') ∧ RepV σ F w v u) ∧ AV.le v (x.toAV s'.heap) ∧ K (s'.put o.dst x) = some r)
   cases hq : exT1 C.T s' o.op with
   | bad => rw [hq] at hx; cases hx
   | ok x =>
    rw [hq] at hx ht
    obtain ⟨c', x', he, hc, hle⟩ := ht
    exact fin he hc hle hx
   | cond c x =>
    rw [hq] at hx ht
    obtain ⟨hc, hx⟩ := ck_some hx
    obtain ⟨c', x', he, hc, hle⟩ := ht hc
    exact fin he hc hle hx
 ·rename_i hf; cases hf
 ·cases hx
theorem exPlanF_all (hC : CxOK P C) (hn : X.n = C.n) (hm : X.m = 0) {l : List Oper} {n : Nat} (hs : Region.noSelect l.toArray = true) (hh : headB .any l.toArray n = true) {tail : TSt → Option β} {r : β} {s0 : TSt} {K' : St → Prop}
  (hk : ∀ s' listed, tail s' = some r → WFr (dstsOf l) s0 s' → Region.seqB .any l.toArray (l.toArray.size - n) n listed = true → DrawT P X l.toArray n 0 listed K' s'.toSt) :
  ∀ (pl : Plan) (m : Bool) (f : Nat) (listed : Array Bool) (s : TSt), planB C.T l.toArray n pl m f listed = true → (pl.isNo = false → exPlanF C l tail pl s = some r) → WFr (dstsOf l) s0 s →
   (m = false → pl.isNo = false → DrawT P X l.toArray n f listed K' s.toSt) ∧ (∀ i ∈ pl.ids, ∃ f', f = f' + 1 ∧ Branch P X l.toArray n f' listed K' s.toSt i) := by
 intro pl
 induction pl with
 | done =>
  intro m f listed s hp hx hf
  simp only [planB, Bool.and_eq_true, Bool.not_eq_true', decide_eq_true_eq] at hp
  obtain ⟨⟨_, rfl⟩, h3⟩ := hp
  exact ⟨fun _ _ => hk s listed (hx rfl) hf h3, fun i hi => by cases hi⟩
 | no =>
  intro m f listed s hp hx hf
  exact ⟨fun _ h => (by cases h), fun i hi => by cases hi⟩
 | take i pr ih =>
  intro m f listed s hp hx hf0
  have hx := hx rfl
  simp only [planB, Bool.and_eq_true, Bool.not_eq_true'] at hp
  obtain ⟨hm0, hp⟩ := hp
  refine ⟨fun _ _ => ?_, fun i hi => by cases hi⟩
  cases f with
  | zero => cases hp
  | succ f =>
   simp only [Bool.and_eq_true, decide_eq_true_eq] at hp
   obtain ⟨⟨⟨⟨hin, hr⟩, hfree⟩, hst⟩, hp⟩ := hp
   simp only [exPlanF] at hx
   split at hx
   ·rename_i o hi
    have hi' : l.toArray[i]? = some o := by rw [List.getElem?_toArray, ← nthOp_eq]; exact hi
    rw [hi'] at hst
    have ho : o ∈ l := List.mem_of_getElem? (by rw [← nthOp_eq]; exact hi)
    have hdm : ∀ d, o.dst = some d → d ∈ dstsOf l := fun d hd => dstsOf_mem ho hd
    have ihs : ∀ {s' : TSt}, WFr (dstsOf l) s0 s' → exPlanF C l tail pr s' = some r → DrawT P X l.toArray n f (listed.setIfInBounds i true) K' s'.toSt := fun {s'} h1 h2 => by
     have hno : pr.isNo = false := by
      cases pr with
      | no => cases h2
      | _ => rfl
     exact (ih false f _ s' hp (fun _ => h2) h1).1 rfl hno
    have step : ∀ {s' : TSt}, WFr (dstsOf l) s0 s' → (∀ a w, Rep X s'.toSt a w → Region.wanted o (yielded l.toArray a.tmps) = true) → exStepD C true o (exPlanF C l tail pr) s' = some r → DrawT P X l.toArray n (f + 1) listed K' s'.toSt := by
     intro s' hf hwant hx
     obtain ⟨hd', x, v, hv, hle, hx⟩ := still_cond (X := X) (l := l) hC hn hst hx
     refine DrawT.take hi' hs hh hin hr hfree hd' (x := x.toAV s'.heap) (fun σ F a w hat => ?_) ?_
     ·obtain ⟨u, h1, h2⟩ := hv σ F a w hat
      exact ⟨u, .inl ⟨hwant a w ⟨σ, F, hat⟩, fun w' _ => h1 w'⟩, RepV.le hle h2⟩
     ·rw [← TSt.put_ok]
      exact ihs (WFr.put hf hdm _) hx
    unfold exGuardF at hx
    split at hx
    ·rename_i hg
     exact step hf0 (fun a w hr => by simp [Region.wanted, hg]) hx
    ·rename_i j want hg
     split at hx
     ·rename_i d hj
      have hj' : (l.toArray[j]?).bind (·.dst) = some d := by rw [List.getElem?_toArray, ← nthDst_eq]; exact hj
      have hdj := nthDst_mem hj
      have wf1 : ∀ (v : SV), WFr (dstsOf l) s0 (s.put (some d) v) := fun v => WFr.put hf0 (fun i hi => by cases hi; exact hdj) v
      have skip : ∀ {s' : TSt}, WFr (dstsOf l) s0 s' → dOK X.n o.dst → (∀ a w, Rep X s'.toSt a w → Region.wanted o (yielded l.toArray a.tmps) = false) → exPlanF C l tail pr (s'.put o.dst undefS) = some r → DrawT P X l.toArray n (f + 1) listed K' s'.toSt := by
       intro s' hf hdst hno hx9
       have h9 := ihs (WFr.put hf hdm _) hx9
       rw [TSt.put_ok, undef_av] at h9
       exact DrawT.take hi' hs hh hin hr hfree hdst (fun σ F a w hat => ⟨undef, .inr ⟨hno a w ⟨σ, F, hat⟩, rfl⟩, .f _ _ (.v _)⟩) h9
      split at hx
      ·rename_i hu hdn
       rw [Bool.and_eq_true] at hdn
       have hu' := isUndef_ok hu
       refine skip hf0 (hn ▸ dOK_of hdn.2) (fun a w hr => ?_) hx
       have h1 := yielded_undef hj' (hn ▸ of_decide_eq_true hdn.1) (by simp only [TSt.toSt, tget_ok]; rw [hu']; rfl) hr
       simp [Region.wanted, hg, h1]
      ·rename_i hu hdn
       rw [Bool.and_eq_true] at hdn
       have hdl : d < X.n := hn ▸ of_decide_eq_true hdn.1
       split at hx
       ·rename_i b hb
        obtain ⟨h1, h2⟩ := gd_some hx
        have known : ∀ {b' : Bool} {a : Act} {w : World}, Rep X (s.put (some d) (.cst (.bool b'))).toSt a w → yielded l.toArray a.tmps j = some b' := fun {b' a w} hr =>
         yielded_known hj' hdl (s := (s.put (some d) (.cst (.bool b'))).toSt) (by simp only [TSt.toSt, tget_ok, TSt.put, tget, if_true]; rfl) hr
        by_cases e : b = want
        ·refine DrawT.from (know_imp (by rw [hb, e])) (step (wf1 _) (fun a w hr => ?_) (h1 e))
         simp [Region.wanted, hg, known hr]
        ·have e' : b = !want := by cases b <;> cases want <;> first | rfl | exact absurd rfl e
         refine DrawT.from (know_imp (b := !want) (by rw [hb, e'])) (skip (wf1 _) (hn ▸ dOK_of hdn.2) (fun a w hr => ?_) (h2 e'))
         simp [Region.wanted, hg, known hr]
       ·cases hx
      ·cases hx
     ·cases hx
   ·cases hx
 | alt i pa pb iha ihb =>
  intro m f listed s hp hx hf0
  have hx := hx rfl
  simp only [planB, Bool.and_eq_true] at hp
  obtain ⟨hrd, hp⟩ := hp
  cases f with
  | zero => cases hp
  | succ f =>
   simp only [Bool.and_eq_true, decide_eq_true_eq] at hp
   obtain ⟨⟨hin, hpa⟩, hpb⟩ := hp
   have hx2 : (match nthOp l i with
    | some o => exGuardF C l o (exOneF C o (exPlanF C l tail pa)) (exPlanF C l tail pa) s
    | none => none) = some r ∧ (pb.isNo = false → exPlanF C l tail pb s = some r) := by
    simp only [exPlanF] at hx
    cases hb : pb.isNo with
    | true => rw [hb] at hx; exact ⟨hx, fun h => by cases h⟩
    | false => rw [hb] at hx; obtain ⟨h1, h2⟩ := both_some hx; exact ⟨h1, fun _ => h2⟩
   obtain ⟨hx1, hxb⟩ := hx2
   have hbr := (ihb true (f + 1) listed s hpb hxb hf0).2
   have hone : Branch P X l.toArray n f listed K' s.toSt i := by
    split at hx1
    ·rename_i o hi
     have hi' : l.toArray[i]? = some o := by rw [List.getElem?_toArray, ← nthOp_eq]; exact hi
     have ho : o ∈ l := List.mem_of_getElem? (by rw [← nthOp_eq]; exact hi)
     have hdm : ∀ d, o.dst = some d → d ∈ dstsOf l := fun d hd => dstsOf_mem ho hd
     have ihs : ∀ {s' : TSt}, WFr (dstsOf l) s0 s' → exPlanF C l tail pa s' = some r → DrawT P X l.toArray n f (listed.setIfInBounds i true) K' s'.toSt := fun {s'} h1 h2 => by
      have hno : pa.isNo = false := by
       cases pa with
       | no => cases h2
       | _ => rfl
      exact (iha false f _ s' hpa (fun _ => h2) h1).1 rfl hno
     have step : ∀ {s' : TSt}, WFr (dstsOf l) s0 s' → (∀ a w, Rep X s'.toSt a w → Region.wanted o (yielded l.toArray a.tmps) = true) → exOneF C o (exPlanF C l tail pa) s' = some r → Branch P X l.toArray n f listed K' s'.toSt i := by
      intro s' hf hwant hx
      refine ⟨hin, o, hi', fun Qc next a w hnx hr => ?_⟩
      rw [if_pos (hwant a w hr)]
      unfold exOneF at hx
      split at hx
      ·rename_i hd
       refine (useR_ok hdm (exT2_ok hC hm (hn ▸ dOK_of hd)) hx) Qc next a w (fun s2 a' w' hl hr' => ?_) hr
       obtain ⟨s1, h1, h2, h3⟩ := hl
       exact hnx _ _ _ (ihs (hf.trans h3 (fun _ h => h) (fun _ h => h)) h2) (h1 a' w' hr')
      ·cases hx
     unfold exGuardF at hx1
     split at hx1
     ·rename_i hg
      exact step hf0 (fun a w hr => by simp [Region.wanted, hg]) hx1
     ·rename_i j want hg
      split at hx1
      ·rename_i d hj
       have hj' : (l.toArray[j]?).bind (·.dst) = some d := by rw [List.getElem?_toArray, ← nthDst_eq]; exact hj
       have hdj := nthDst_mem hj
       have wf1 : ∀ (v : SV), WFr (dstsOf l) s0 (s.put (some d) v) := fun v => WFr.put hf0 (fun i hi => by cases hi; exact hdj) v
       have skip : ∀ {s' : TSt}, WFr (dstsOf l) s0 s' → dOK X.n o.dst → (∀ a w, Rep X s'.toSt a w → Region.wanted o (yielded l.toArray a.tmps) = false) → exPlanF C l tail pa (s'.put o.dst undefS) = some r → Branch P X l.toArray n f listed K' s'.toSt i := by
        intro s' hf hdst hno hx9
        have h9 := ihs (WFr.put hf hdm _) hx9
        rw [TSt.put_ok, undef_av] at h9
        refine ⟨hin, o, hi', fun Qc next a w hnx hr => ?_⟩
        rw [if_neg (by simp [hno a w hr])]
        obtain ⟨σ, F, hr⟩ := hr
        exact hnx _ _ _ h9 ⟨σ, F, hr.put hdst (.f _ _ (.v _))⟩
       split at hx1
       ·rename_i hu hdn
        rw [Bool.and_eq_true] at hdn
        have hu' := isUndef_ok hu
        refine skip hf0 (hn ▸ dOK_of hdn.2) (fun a w hr => ?_) hx1
        have h1 := yielded_undef hj' (hn ▸ of_decide_eq_true hdn.1) (by simp only [TSt.toSt, tget_ok]; rw [hu']; rfl) hr
        simp [Region.wanted, hg, h1]
       ·rename_i hu hdn
        rw [Bool.and_eq_true] at hdn
        have hdl : d < X.n := hn ▸ of_decide_eq_true hdn.1
        split at hx1
        ·rename_i b hb
         obtain ⟨h1, h2⟩ := gd_some hx1
         have known : ∀ {b' : Bool} {a : Act} {w : World}, Rep X (s.put (some d) (.cst (.bool b'))).toSt a w → yielded l.toArray a.tmps j = some b' := fun {b' a w} hr =>
          yielded_known hj' hdl (s := (s.put (some d) (.cst (.bool b'))).toSt) (by simp only [TSt.toSt, tget_ok, TSt.put, tget, if_true]; rfl) hr
         by_cases e : b = want
         ·refine Branch.from (know_imp (by rw [hb, e])) (step (wf1 _) (fun a w hr => ?_) (h1 e))
          simp [Region.wanted, hg, known hr]
         ·have e' : b = !want := by cases b <;> cases want <;> first | rfl | exact absurd rfl e
          refine Branch.from (know_imp (b := !want) (by rw [hb, e'])) (skip (wf1 _) (hn ▸ dOK_of hdn.2) (fun a w hr => ?_) (h2 e'))
          simp [Region.wanted, hg, known hr]
        ·cases hx1
       ·cases hx1
      ·cases hx1
    ·cases hx1
   have hids : ∀ q ∈ (Plan.alt i pa pb).ids, ∃ f', f + 1 = f' + 1 ∧ Branch P X l.toArray n f' listed K' s.toSt q := by
    intro q hq
    rcases List.mem_cons.1 hq with rfl | hq
    ·exact ⟨f, rfl, hone⟩
    ·exact hbr q hq
   refine ⟨fun hm0 _ => ?_, hids⟩
   subst hm0
   rw [Bool.false_or] at hrd
   have hrd := of_decide_eq_true hrd
   refine DrawT.all (by rw [hrd]; simp) (fun q hq => ?_)
   rw [hrd] at hq
   obtain ⟨f', e, hb⟩ := hids q hq
   obtain rfl : f = f' := by omega
   exact hb
theorem WP.drawT {id : Nat} {Q : Exit → St → Prop} {l : List Oper} {n : Nat} {s : St} (hm : P.follows .mixedOrders = true) (hn : n ≤ l.toArray.size)
  (hQ : ∀ c s, ¬ Q (.panic c) s)
  (h : DrawT P X l.toArray n n (Array.replicate l.toArray.size false) (Q .normal) s) : WP P X (.region id l.toArray true) Q s := by
 intro a w hr
 refine wp_region_any hm ?_
 have inv0 : HeadInv .any l.toArray n (Array.replicate l.toArray.size false) :=
  ⟨by simp, fun j oj _ hl => (by rw [getD_replicate_false] at hl; cases hl), fun t _ ht => getD_in (by simpa using ht) (getD_replicate_false _ _)⟩
 have H := h (fun e a w => ∃ s, Q e s ∧ Rep X s a w) a { w with drawn := w.drawn + 1 } (fun c a b w ⟨s, h1, _⟩ => absurd h1 (hQ c s)) (fun s' a' w' h1 h2 => ⟨s', h1, h2⟩) hr.drawn inv0
 have hsz : l.toArray.size = n + (l.toArray.size - n) := by omega
 have H2 := any_of_T (g := l.toArray.size - n) (fun listed a' w' hL => by
  have := wpAny_of_seq (md := .any) (Q' := fun e a w => ∃ s, Q e s ∧ Rep X s a w) (l.toArray.toList.drop n) n listed a' w' (fun j => by simp [List.getElem?_drop]) (by simpa using hL.1) hL.2
  simpa using this) _ _ _ _ H
 rwa [← hsz] at H2
theorem exPlanF_ok (hC : CxOK P C) (hn : X.n = C.n) (hm : X.m = 0) {id : Nat} {l : List Oper} {d : Nat × Plan} {K : TSt → Option β} {s : TSt} {r : β} (hB : regP C.T l.toArray d = true)
  (h : exPlanF C l (exOpsF C l (dropL l d.1) K) d.2 s = some r) :
  WP P X (.region id l.toArray true) (fun e s' => ∃ s1, Imp X s' s1.toSt ∧ e = .normal ∧ K s1 = some r ∧ WFr (dstsOf l) s s1) s.toSt := by
 obtain ⟨n, pl⟩ := d
 simp only [regP, Bool.and_eq_true, decide_eq_true_eq] at hB
 obtain ⟨⟨⟨hsel, hhd⟩, hn'⟩, hp⟩ := hB
 have hno : pl.isNo = false := by
  cases pl with
  | no => cases h
  | _ => rfl
 let Q : Exit → St → Prop := fun e s' => match e with
  | .normal => lk X K r (dstsOf l) s s'
  | _ => False
 have h1 := (exPlanF_all (r := r) (s0 := s) (K' := Q .normal) hC hn hm hsel hhd (tail := exOpsF C l (dropL l n) K) (fun s' listed hx hf hw => by
  refine DrawT.nil hw ?_
  rw [dropL_eq] at hx
  have h1 := exOpsF_ok hC hn hm l (l.drop n) K s' r (fun o ho => List.mem_of_mem_drop ho) hx
  intro Qc a w hK hr
  have h2 := h1 Qc a w (fun s2 a' w' ⟨s3, h3, h4, h5⟩ hr' => hK s2 a' w' ⟨s3, h3, h4, hf.trans h5 (fun _ h => h) (fun _ h => h)⟩ hr') hr
  simpa using h2) pl false n _ s hp (fun _ => h) (.refl _ _)).1 rfl hno
 refine WP.mono (WP.drawT (P := P) (X := X) (id := id) (Q := Q) (l := l) hC.mixed hn' (fun c s h => h) (s := s.toSt) h1) (fun e s' hq => ?_)
 cases e with
 | normal =>
  obtain ⟨s1, h2, h3, h4⟩ := hq
  exact ⟨s1, h2, rfl, h3, h4⟩
 | _ => exact hq.elim
end
end Go.Proofs.YtpeiomhgaembaaaDoor.Eng
set_option linter.unusedVariables false
set_option linter.unusedSimpArgs false
namespace Go.Proofs.YtpeiomhgaembaaaDoor.Eng
open Go Go.RowKit
def writes : Code → List Nat
 | .region _ ops _ => dstsOf ops.toList
 | .seq a b => writes a ++ writes b
 | .cond _ a b => writes a ++ writes b
 | .block _ b => writes b
 | .loop b => writes b
 | _ => []
def childC : Nat → Code → Option Code
 | 0, .seq a _ => some a
 | 1, .seq _ b => some b
 | 0, .cond _ a _ => some a
 | 1, .cond _ _ b => some b
 | 0, .block _ b => some b
 | 0, .loop b => some b
 | _, _ => none
def atC (root : Code) : List Nat → Option Code
 | [] => some root
 | i :: p => (match atC root p with
  | some c => childC i c
  | none => none)
def TW (P : Program) (X : Ctx) (c : Code) (s : TSt) (Q : Exit → TSt → Prop) : Prop := WP P X c (fun e s' => ∃ s1, Imp X s' s1.toSt ∧ Q e s1) s.toSt
def LoopOK (P : Program) (C : Cx) (ent : Ent) (b : Code) : Prop :=
 ∀ (X : Ctx), X.n = C.n → X.m = 0 → ∀ (β : Type) (K : Exit → TSt → Option β) (s : TSt) (r : β), runL C ent K s = some r → TW P X (.loop b) s (fun e s1 => K e s1 = some r ∧ WFr (writes b) s s1)
def LsOK (P : Program) (C : Cx) (root : Code) (L : List Nat → Option Ent) : Prop := ∀ p ent b, L p = some ent → atC root p = some (.loop b) → LoopOK P C ent b
section
variable {P : Program} {C : Cx} {X : Ctx} {β : Type} {root : Code} {L : List Nat → Option Ent}
theorem TW.mono {c : Code} {s : TSt} {Q Q' : Exit → TSt → Prop} (h : TW P X c s Q) (hq : ∀ e s, Q e s → Q' e s) : TW P X c s Q' := WP.mono h fun e s' ⟨s1, h1, h2⟩ => ⟨s1, h1, hq _ _ h2⟩
theorem TW.from {c : Code} {s s' : TSt} {Q : Exit → TSt → Prop} (hi : Imp X s.toSt s'.toSt) (h : TW P X c s' Q) : TW P X c s Q := WP.from hi h
theorem exF_ok (hC : CxOK P C) (hn : X.n = C.n) (hm : X.m = 0) (hL : LsOK P C root L) : ∀ (c : Code) (p : List Nat) (K : Exit → TSt → Option β) (s : TSt) (r : β), atC root p = some c → exF C L c p K s = some r → TW P X c s (fun e s1 => K e s1 = some r ∧ WFr (writes c) s s1) := by
 intro c
 induction c with
 | skip => exact fun p K s r _ h => WP.skip ⟨s, .refl _ _, h, .refl _ _⟩
 | exit id => exact fun p K s r _ h => WP.exit ⟨s, .refl _ _, h, .refl _ _⟩
 | ret => exact fun p K s r _ h => WP.ret ⟨s, .refl _ _, h, .refl _ _⟩
 | region id ops drawn =>
  intro p K s r _ h
  simp only [exF] at h
  cases drawn with
  | false =>
   have h1 := exOpsF_ok hC hn hm ops.toList ops.toList (K .normal) s r (fun o ho => ho) h
   have := WP.region (P := P) (id := id) (l := ops.toList) (Q := fun e s' => ∃ s1, Imp X s' s1.toSt ∧ K e s1 = some r ∧ WFr (writes (.region id ops false)) s s1) h1
   simpa [TW] using this
  | true =>
   simp only at h
   split at h
   ·rename_i d hD
    split at h
    ·rename_i hB
     have hB' : regB ops.toList.toArray d = true := by simpa using hB
     obtain ⟨π, hl, hn', _, _, h1⟩ := exRegF_ok (l := ops.toList) hC hn hm hB' h
     let Q : Exit → St → Prop := fun e s' => match e with
      | .normal => ∃ s1, Imp X s' s1.toSt ∧ K .normal s1 = some r ∧ WFr (writes (.region id ops true)) s s1
      | _ => False
     have h2 := WP.draw2 (P := P) (X := X) (id := id) (Q := Q) (l := ops.toList) hC.mixed hl hn' (fun c s h => h) (s := s.toSt) h1
     have h3 : WP P X (.region id ops true) Q s.toSt := by simpa using h2
     refine WP.mono h3 (fun e s' hq => ?_)
     cases e with
     | normal => exact hq
     | _ => exact hq.elim
    ·cases h
   ·split at h
    ·rename_i d hD
     split at h
     ·rename_i hB
      have hB' : regP C.T ops.toList.toArray d = true := by simpa using hB
      have h1 := exPlanF_ok (id := id) (l := ops.toList) hC hn hm hB' h
      have h3 : TW P X (.region id ops true) s (fun e s1 => K e s1 = some r ∧ WFr (dstsOf ops.toList) s s1) := by
       have := TW.mono (P := P) (X := X) (c := .region id ops.toList.toArray true) (s := s) (Q := fun e s1 => e = .normal ∧ K .normal s1 = some r ∧ WFr (dstsOf ops.toList) s s1) (Q' := fun e s1 => K e s1 = some r ∧ WFr (dstsOf ops.toList) s s1) h1 (fun e s1 hq => by obtain ⟨rfl, h5, h6⟩ := hq; exact ⟨h5, h6⟩)
       simpa using this
      exact h3
     ·cases h
    ·cases h
 | seq a b iha ihb =>
  intro p K s r hat h
  simp only [exF] at h
  have h1 := iha (0 :: p) _ s r (by simp only [atC, hat]; rfl) h
  refine WP.seq (WP.mono h1 (fun e s' hq => ?_))
  obtain ⟨s1, h2, h3, h4⟩ := hq
  have inA : ∀ i, i ∉ writes (.seq a b) → i ∉ writes a := fun i hi h => hi (List.mem_append_left _ h)
  have inB : ∀ i, i ∉ writes (.seq a b) → i ∉ writes b := fun i hi h => hi (List.mem_append_right _ h)
  cases e with
  | normal =>
   refine WP.from h2 (WP.mono (ihb (1 :: p) K s1 r (by simp only [atC, hat]; rfl) h3) (fun e s' hq => ?_))
   obtain ⟨s2, h5, h6, h7⟩ := hq
   exact ⟨s2, h5, h6, h4.trans h7 inA inB⟩
  | _ => exact ⟨s1, h2, h3, h4.mono inA⟩
 | cond c a b iha ihb =>
  intro p K s r hat h
  simp only [exF] at h
  split at h
  ·rename_i t ht
   obtain ⟨h1, h2⟩ := cb_some h
   have inA : ∀ i, i ∉ writes (.cond c a b) → i ∉ writes a := fun i hi h => hi (List.mem_append_left _ h)
   have inB : ∀ i, i ∉ writes (.cond c a b) → i ∉ writes b := fun i hi h => hi (List.mem_append_right _ h)
   refine WP.cond (t := t) (by rw [TSt.ev_ok, boo_av ht]) (fun e => ?_) (fun e => ?_)
   ·exact TW.mono (iha (0 :: p) K s r (by simp only [atC, hat]; rfl) (h1 e)) (fun e s1 hq => ⟨hq.1, hq.2.mono inA⟩)
   ·exact TW.mono (ihb (1 :: p) K s r (by simp only [atC, hat]; rfl) (h2 e)) (fun e s1 hq => ⟨hq.1, hq.2.mono inB⟩)
  ·cases h
 | block id b ih =>
  intro p K s r hat h
  simp only [exF] at h
  have h1 := ih (0 :: p) _ s r (by simp only [atC, hat]; rfl) h
  refine WP.block (WP.mono h1 (fun e s' hq => ?_))
  obtain ⟨s1, h2, h3, h4⟩ := hq
  cases e with
  | exit i =>
   simp only at h3
   simp only [block_]
   split at h3
   ·rename_i hi
    rw [if_pos (of_decide_eq_true hi)]
    exact ⟨s1, h2, h3, h4⟩
   ·rename_i hi
    rw [if_neg (of_decide_eq_false hi)]
    exact ⟨s1, h2, h3, h4⟩
  | _ => exact ⟨s1, h2, h3, h4⟩
 | loop b _ =>
  intro p K s r hat h
  simp only [exF] at h
  split at h
  ·rename_i ent hent
   exact hL p ent b hent hat X hn hm β K s r h
  ·cases h
 | _ => intro p K s r _ h; simp [exF] at h
theorem WP.ghost {α : Type} {b : Code} {Q : Exit → St → Prop} (I : α → St) (Inv : α → Prop) (μ : α → Nat) (g0 : α) (h0 : Inv g0) (round : ∀ g, Inv g → WP P X b (then_ (fun s' => ∃ g', Imp X s' (I g') ∧ Inv g' ∧ μ g' < μ g) Q) (I g)) : WP P X (.loop b) Q (I g0) := by
 rintro a w hr
 refine wp_loop_ghost (fun n a w => ∃ g, μ g = n ∧ Inv g ∧ Rep X (I g) a w) (μ g0) ⟨g0, rfl, h0, hr⟩ ?_
 rintro n a w ⟨g, rfl, hI, hr⟩
 refine Code.wp_mono' (round g hI a w hr) ?_
 rintro e a w ⟨s', h1, h2⟩
 cases e with
 | normal =>
  obtain ⟨g', hi, hI', hlt⟩ := h1
  exact ⟨μ g', hlt, g', rfl, hI', hi a w h2⟩
 | _ => exact ⟨s', h1, h2⟩
def inL (l : List Nat) (i : Nat) : Bool := memN l i
theorem memN_ok : ∀ (l : List Nat) (i : Nat), memN l i = true → i ∈ l
 | x :: r, i, h => by
  unfold memN at h
  by_cases hx : x = i
  ·subst hx; exact List.mem_cons_self ..
  ·rw [if_neg hx] at h; exact List.mem_cons_of_mem _ (memN_ok r i h)
def subN : List Nat → List Nat → Bool
 | [], _ => true
 | x :: r, l => memN l x && subN r l
theorem subN_ok : ∀ (l m : List Nat), subN l m = true → ∀ i ∈ l, i ∈ m
 | x :: r, m, h, i, hi => by
  simp only [subN, Bool.and_eq_true] at h
  rcases List.mem_cons.1 hi with rfl | hi
  ·exact memN_ok _ _ h.1
  ·exact subN_ok r m h.2 i hi
def slotsOf (l : List (Nat × SK)) : List Nat := l.map (·.1)
def apartN : List Nat → List Nat → Bool
 | [], _ => true
 | x :: r, l => !memN l x && apartN r l
theorem memN_not : ∀ (l : List Nat) (i : Nat), memN l i = false → i ∉ l
 | [], _, _ => by simp
 | x :: r, i, h => by
  unfold memN at h
  by_cases hx : x = i
  ·rw [if_pos hx] at h; cases h
  ·rw [if_neg hx] at h
   simp only [List.mem_cons, not_or]
   exact ⟨fun e => hx e.symm, memN_not r i h⟩
theorem apartN_ok : ∀ (l m : List Nat), apartN l m = true → ∀ i ∈ l, i ∉ m
 | x :: r, m, h, i, hi => by
  simp only [apartN, Bool.and_eq_true, Bool.not_eq_true'] at h
  rcases List.mem_cons.1 hi with rfl | hi
  ·exact memN_not _ _ h.1
  ·exact apartN_ok r m h.2 i hi
def preSlots : List PA → List Nat
 | [] => []
 | .nil d _ _ :: r => d :: preSlots r
 | .frz _ :: r => preSlots r
theorem preSlots_ok {W : List Nat} : ∀ (l : List PA), (∀ i ∈ preSlots l, i ∈ W) → ∀ p ∈ l, ∀ d e t, p = .nil d e t → d ∈ W
 | .nil d e t :: r, h, p, hp, d', e', t', hpe => by
  rcases List.mem_cons.1 hp with rfl | hp
  ·cases hpe; exact h d (List.mem_cons_self ..)
  ·exact preSlots_ok r (fun i hi => h i (List.mem_cons_of_mem _ hi)) p hp d' e' t' hpe
 | .frz d :: r, h, p, hp, d', e', t', hpe => by
  rcases List.mem_cons.1 hp with rfl | hp
  ·cases hpe
  ·exact preSlots_ok r h p hp d' e' t' hpe
def pureK : List (Nat × SK) → Bool
 | [] => true
 | (_, .val _) :: r => pureK r
 | (_, .rp _) :: r => pureK r
 | (_, .fn _) :: r => pureK r
 | _ :: _ => false
def exitSlots : List (Exit × Shape) → List Nat
 | [] => []
 | p :: r => slotsOf p.2.slots ++ exitSlots r
def noNormal : List (Exit × Shape) → Bool
 | [] => true
 | p :: r => !exitB .normal p.1 && noNormal r
def pureSl : List (Nat × SK) → List Nat
 | [] => []
 | (i, .val _) :: r => i :: pureSl r
 | (i, .rp _) :: r => i :: pureSl r
 | (i, .fn _) :: r => i :: pureSl r
 | (_, .own _ _) :: r => pureSl r
 | (_, .que _ _) :: r => pureSl r
 | (_, .ptr _ _) :: r => pureSl r
 | (_, .nm _ _) :: r => pureSl r
def ownSl : List (Nat × SK) → List Nat
 | [] => []
 | (_, .val _) :: r => ownSl r
 | (_, .rp _) :: r => ownSl r
 | (_, .fn _) :: r => ownSl r
 | (i, .own _ _) :: r => i :: ownSl r
 | (i, .que _ _) :: r => i :: ownSl r
 | (i, .ptr _ _) :: r => i :: ownSl r
 | (i, .nm _ _) :: r => i :: ownSl r
def pureEx : List (Exit × Shape) → List Nat
 | [] => []
 | p :: r => pureSl p.2.slots ++ pureEx r
def ownEx : List (Exit × Shape) → List Nat
 | [] => []
 | p :: r => ownSl p.2.slots ++ ownEx r
theorem slot_or : ∀ (l : List (Nat × SK)) (i : Nat), i ∈ slotsOf l → i ∈ pureSl l ∨ i ∈ ownSl l
 | (j, sk) :: r, i, hi => by
  rcases List.mem_cons.1 hi with h | h
  ·have h' : i = j := h
   subst h'
   cases sk <;> simp [pureSl, ownSl]
  ·rcases slot_or r i h with h | h <;> cases sk <;> simp [pureSl, ownSl, h]
theorem ownSl_chk {env : List (Nat × SV)} {n : Nat} : ∀ (l : List (Nat × SK)) (i : Nat), chkSlots env n l = true → i ∈ ownSl l → (∃ k sz, tget env i = .own k sz) ∨ (∃ k sz, tget env i = .ptr k 0 sz 0) ∨ ∃ k q, tget env i = .nm k q
 | (j, sk) :: r, i, hc, hi => by
  cases sk with
  | val t => exact ownSl_chk r i hc hi
  | rp t => exact ownSl_chk r i hc hi
  | fn g =>
   simp only [chkSlots] at hc
   split at hc
   ·simp only [Bool.and_eq_true] at hc; exact ownSl_chk r i hc.2 hi
   ·cases hc
  | own k sz =>
   simp only [chkSlots] at hc
   split at hc
   ·rename_i k' sz' hg
    simp only [Bool.and_eq_true] at hc
    rcases List.mem_cons.1 hi with h | h
    ·subst h; exact .inl ⟨_, _, hg⟩
    ·exact ownSl_chk r i hc.2 h
   ·cases hc
  | que k sz =>
   simp only [chkSlots] at hc
   split at hc
   ·rename_i k' sz' hg
    simp only [Bool.and_eq_true] at hc
    rcases List.mem_cons.1 hi with h | h
    ·subst h; exact .inl ⟨_, _, hg⟩
    ·exact ownSl_chk r i hc.2 h
   ·cases hc
  | ptr k sz =>
   simp only [chkSlots] at hc
   split at hc
   ·rename_i k' sz' hg
    simp only [Bool.and_eq_true] at hc
    rcases List.mem_cons.1 hi with h | h
    ·subst h; exact .inr (.inl ⟨_, _, hg⟩)
    ·exact ownSl_chk r i hc.2 h
   ·cases hc
  | nm k sz =>
   simp only [chkSlots] at hc
   split at hc
   ·rename_i k' sz' hg
    simp only [Bool.and_eq_true] at hc
    rcases List.mem_cons.1 hi with h | h
    ·subst h; exact .inr (.inr ⟨_, _, hg⟩)
    ·exact ownSl_chk r i hc.2 h
   ·cases hc
def Ent.fits (ent : Ent) (b : Code) : Bool := subN (pureSl ent.car.slots) (writes b) && subN (pureEx ent.exits) (writes b) && subN (ownEx ent.exits) (writes b ++ ownSl ent.car.slots) && subN (preSlots ent.pre) (writes b) &&
 apartN (slotsOf ent.inv) (writes b) && apartN (slotsOf ent.inv) (slotsOf ent.car.slots) && apartN (slotsOf ent.inv) (exitSlots ent.exits)
end
end Go.Proofs.YtpeiomhgaembaaaDoor.Eng
set_option linter.unusedVariables false
set_option linter.unusedSimpArgs false
namespace Go.Proofs.YtpeiomhgaembaaaDoor.Eng
open Go Go.RowKit
section
variable {P : Program} {C : Cx} {X : Ctx} {β : Type} {root : Code} {L : List Nat → Option Ent}
theorem decS_some {sh : Shape} {s : TSt} {k : denL sh.tys → Option β} {r : β} (h : decS sh s k = some r) : ∃ x, (chkSlots s.env sh.objs.length sh.slots && chkObjs s.heap sh.objs) = true ∧ asTL [] sh.tys (colSlots s.env sh.slots ++ colObjs s.heap sh.objs) = some x ∧ k x = some r := by
 unfold decS at h
 split at h
 ·rename_i hc
  split at h
  ·rename_i x hx
   exact ⟨x, hc, hx, h⟩
  ·cases h
 ·cases h
theorem encI_ok {env : List (Nat × SV)} : ∀ (inv : List (Nat × SK)) (vs : List SV), chkInv env inv = true → Rel3 (slotTys inv) (colSlots env inv) vs →
  (encSlots inv vs).1.map (·.1) = slotsOf inv ∧ ∀ i, i ∈ slotsOf inv → (∀ H H' n, LeS H H' n (tget env i) (tget (encSlots inv vs).1 i)) ∧ tget env i ≠ .any ∧ (∀ t (x : t.den), tget env i = .val t x → tget (encSlots inv vs).1 i = .val t x) ∧ (∀ t (x : t.den), tget env i = .rp t x → tget (encSlots inv vs).1 i = .rp t x) ∧
   (∀ g, tget env i = .fn g [] → tget (encSlots inv vs).1 i = .fn g []) ∧ ((∃ t x, tget (encSlots inv vs).1 i = .val t x) ∨ (∃ t x, tget (encSlots inv vs).1 i = .rp t x) ∨ ∃ g, tget (encSlots inv vs).1 i = .fn g []) := by
 intro inv
 induction inv with
 | nil => exact fun vs _ _ => ⟨rfl, fun i hi => by cases hi⟩
 | cons p r ih =>
  obtain ⟨j, sk⟩ := p
  have fin : ∀ {vs vs' : List SV} {v : SV}, chkInv env r = true → Rel3 (slotTys r) (colSlots env r) vs' → (encSlots ((j, sk) :: r) vs).1 = (j, v) :: (encSlots r vs').1 →
    (∀ H H' n, LeS H H' n (tget env j) v) → tget env j ≠ .any → (∀ t (x : t.den), tget env j = .val t x → v = .val t x) → (∀ t (x : t.den), tget env j = .rp t x → v = .rp t x) → (∀ g, tget env j = .fn g [] → v = .fn g []) → ((∃ t x, v = .val t x) ∨ (∃ t x, v = .rp t x) ∨ ∃ g, v = .fn g []) →
    (encSlots ((j, sk) :: r) vs).1.map (·.1) = slotsOf ((j, sk) :: r) ∧ ∀ i, i ∈ slotsOf ((j, sk) :: r) → (∀ H H' n, LeS H H' n (tget env i) (tget (encSlots ((j, sk) :: r) vs).1 i)) ∧ tget env i ≠ .any ∧ (∀ t (x : t.den), tget env i = .val t x → tget (encSlots ((j, sk) :: r) vs).1 i = .val t x) ∧ (∀ t (x : t.den), tget env i = .rp t x → tget (encSlots ((j, sk) :: r) vs).1 i = .rp t x) ∧
     (∀ g, tget env i = .fn g [] → tget (encSlots ((j, sk) :: r) vs).1 i = .fn g []) ∧ ((∃ t x, tget (encSlots ((j, sk) :: r) vs).1 i = .val t x) ∨ (∃ t x, tget (encSlots ((j, sk) :: r) vs).1 i = .rp t x) ∨ ∃ g, tget (encSlots ((j, sk) :: r) vs).1 i = .fn g []) := by
   intro vs vs' v hc hr he h1 h2 h3 h4 h5 h6
   obtain ⟨h7, h8⟩ := ih vs' hc hr
   rw [he]
   refine ⟨by simp only [List.map_cons, slotsOf]; rw [h7]; rfl, fun i hi => ?_⟩
   simp only [tget]
   by_cases hij : i = j
   ·subst hij
    simp only [if_true]
    exact ⟨h1, h2, h3, h4, h5, h6⟩
   ·simp only [if_neg hij]
    simp only [slotsOf, List.map_cons, List.mem_cons] at hi
    exact h8 i (hi.resolve_left hij)
  intro vs hc hr
  cases sk with
  | val t =>
   simp only [slotTys, colSlots] at hr
   cases hr with
   | @cons _ _ y _ _ _ hu hr =>
    simp only [chkInv] at hc
    have hc2 : chkInv env r = true ∧ (∀ t' (x : t'.den), tget env j ≠ .rp t' x) ∧ ∀ g, tget env j ≠ .fn g [] := by
     cases hg : tget env j <;> rw [hg] at hc <;> first | (simp only at hc; exact ⟨hc, (fun t' x e => by cases e), fun g e => by cases e⟩) | (simp at hc)
    refine fin hc2.1 hr rfl (fun H H' n => asT_ok (Lends.none (trimAt n) H) hu) (fun e => by rw [e, asT_any] at hu; cases hu) (fun t' x e => ?_) (fun t' x e => absurd e (hc2.2.1 t' x)) (fun g e => absurd e (hc2.2.2 g)) (.inl ⟨t, y, rfl⟩)
    ·rw [e] at hu
     obtain ⟨e1, h9⟩ := castD_ok (show castD t t' x = some y from hu)
     subst e1
     subst h9
     rfl
  | rp t =>
   simp only [slotTys, colSlots] at hr
   cases hr with
   | @cons _ _ y _ _ _ hu hr =>
    have key : tget env j = .rp t y := by
     revert hu
     cases tget env j with
     | rp u z =>
      intro hu
      obtain ⟨e, h9⟩ := castD_ok (show castD t u z = some y from hu)
      subst e
      subst h9
      rfl
     | _ => intro hu; rw [show unRp _ = SV.any from rfl, asT_any] at hu; cases hu
    refine fin hc hr rfl (fun H H' n => by rw [key]; exact .refl _) (by rw [key]; simp) (fun t' x e => by rw [key] at e; cases e) (fun t' x e => by rw [key] at e; exact e) (fun g e => by rw [key] at e; cases e) (.inr (.inl ⟨t, y, rfl⟩))
  | fn g =>
   simp only [slotTys, colSlots] at hr
   simp only [chkInv] at hc
   split at hc
   ·rename_i g' hg
    simp only [Bool.and_eq_true, decide_eq_true_eq] at hc
    obtain ⟨rfl, hc⟩ := hc
    refine fin hc hr rfl (fun H H' n => by rw [hg]; exact .refl _) (by rw [hg]; simp) (fun t' x e => by rw [hg] at e; cases e) (fun t' x e => by rw [hg] at e; cases e) (fun g e => by rw [hg] at e; exact e) (.inr (.inr ⟨_, rfl⟩))
   ·cases hc
  | own k sz => simp [chkInv] at hc
  | que k sz => simp [chkInv] at hc
  | ptr k sz => simp [chkInv] at hc
  | nm k sz => simp [chkInv] at hc
theorem findX_some (hm : X.m = 0) : ∀ (l : List (Exit × Shape)) (e : Exit) (s : TSt) (k : sumD l → Option β) (r : β), findX l e s k = some r → ∃ (sh : Shape) (s' : TSt) (x : denL sh.tys) (y : sumD l), k y = some r ∧ Imp X s.toSt s'.toSt ∧ PureSame s s' ∧
  (chkSlots s'.env sh.objs.length sh.slots && chkObjs s'.heap sh.objs) = true ∧ asTL [] sh.tys (colSlots s'.env sh.slots ++ colObjs s'.heap sh.objs) = some x ∧ (∀ i ∈ slotsOf sh.slots, i ∈ exitSlots l) ∧ (∀ i ∈ pureSl sh.slots, i ∈ pureEx l) ∧ (∀ i ∈ ownSl sh.slots, i ∈ ownEx l) ∧
  ∀ {γ : Type} (k' : Exit → (sh : Shape) → denL sh.tys → Option γ), bindS l y k' = k' e sh x := by
 intro l
 induction l with
 | nil => intro e s k r h; simp [findX] at h
 | cons p l ih =>
  intro e s k r h
  cases l with
  | nil =>
   simp only [findX] at h
   split at h
   ·rename_i he
    obtain rfl := exitB_ok he
    obtain ⟨s', h1, h2, h3⟩ := renF_ok (X := X) hm _ _ _ _ h
    obtain ⟨x, h4, h5, h6⟩ := decS_some h1
    exact ⟨p.2, s', x, x, h6, h2, h3, h4, h5, fun i hi => by simp only [exitSlots, List.append_nil]; exact hi, fun i hi => by simp only [pureEx, List.append_nil]; exact hi, fun i hi => by simp only [ownEx, List.append_nil]; exact hi, fun k' => rfl⟩
   ·cases h
  | cons q l =>
   simp only [findX] at h
   split at h
   ·rename_i he
    obtain rfl := exitB_ok he
    obtain ⟨s', h1, h2, h3⟩ := renF_ok (X := X) hm _ _ _ _ h
    obtain ⟨x, h4, h5, h6⟩ := decS_some h1
    exact ⟨p.2, s', x, .inl x, h6, h2, h3, h4, h5, fun i hi => List.mem_append_left _ hi, fun i hi => List.mem_append_left _ hi, fun i hi => List.mem_append_left _ hi, fun k' => rfl⟩
   ·obtain ⟨sh, s', x, y, h1, h2, h3, h4, h5, h6, h8, h9, h7⟩ := ih e s _ r h
    exact ⟨sh, s', x, .inr y, h1, h2, h3, h4, h5, fun i hi => List.mem_append_right _ (h6 i hi), fun i hi => List.mem_append_right _ (h8 i hi), fun i hi => List.mem_append_right _ (h9 i hi), fun k' => h7 k'⟩
theorem encS_env (sh : Shape) (x : denL sh.tys) (fr : List (Nat × SV)) : (encS sh x fr).env = (encSlots sh.slots (svL sh.tys x)).1 ++ fr := rfl
theorem encSlots_keys : ∀ (slots : List (Nat × SK)) (l : List SV), ∀ i ∈ (encSlots slots l).1.map (·.1), i ∈ slotsOf slots
 | [], l, i, hi => by simp [encSlots] at hi
 | (j, sk) :: r, l, i, hi => by
  have go : ∀ {v : SV} {l' : List SV}, i ∈ ((j, v) :: (encSlots r l').1).map (·.1) → i ∈ slotsOf ((j, sk) :: r) := fun {v l'} h => by
   rcases List.mem_cons.1 h with h | h
   ·rw [h]; exact List.mem_cons_self ..
   ·exact List.mem_cons_of_mem _ (encSlots_keys r l' i h)
  cases sk with
  | val t => cases l with
   | nil => simp [encSlots] at hi
   | cons y l => exact go hi
  | rp t => cases l with
   | nil => simp [encSlots] at hi
   | cons y l => exact go hi
  | own k sz => exact go hi
  | que k sz => exact go hi
  | ptr k sz => exact go hi
  | nm k sz => exact go hi
  | fn g => exact go hi
theorem knownB_ok : ∀ (env : List (Nat × SV)) (inv : List (Nat × SK)), knownB env inv = true → ∀ i ∈ slotsOf inv, tget env i ≠ .any
 | env, (j, sk) :: r, h, i, hi => by
  unfold knownB at h
  split at h
  ·cases h
  ·rename_i hne
   rcases List.mem_cons.1 hi with h1 | h1
   ·have h2 : i = j := h1
    subst h2
    exact hne
   ·exact knownB_ok env r h i h1
theorem LoopOK.of (hC : CxOK P C) {p : List Nat} {b : Code} (hL : LsOK P C root L) (hat : atC root p = some (.loop b)) {ent : Ent} (hfit : ent.fits b = true)
  (hstep : ∀ iv x, exF C L b (0 :: p) ent.kd (ent.head iv x) = ent.step iv x) : LoopOK P C ent b := by
 intro X hn hm β K s r h
 simp only [Ent.fits, Bool.and_eq_true] at hfit
 obtain ⟨⟨⟨⟨⟨⟨f1, f2⟩, f7⟩, f3⟩, f4⟩, f5⟩, f6⟩ := hfit
 have f1 := subN_ok _ _ f1
 have f2 := subN_ok _ _ f2
 have f7 := subN_ok _ _ f7
 have f3 := subN_ok _ _ f3
 have f4 := apartN_ok _ _ f4
 have f5 := apartN_ok _ _ f5
 have f6 := apartN_ok _ _ f6
 unfold runL at h
 split at h
 ·rename_i s1 hs1
  obtain ⟨s2, h1, h2, h3⟩ := renF_ok (X := X) hm _ _ _ _ h
  split at h1
  ·rename_i iv hci hiv
   obtain ⟨x, h4, h5, h6⟩ := decS_some h1
   obtain ⟨y, h7, h8⟩ := ob_some h6
   have hI := encI_ok (env := s2.env) ent.inv _ hci (rel3_of _ _ _ hiv)
   have hkeys : (encI ent.inv iv).map (·.1) = slotsOf ent.inv := hI.1
   have hfr : ∀ s' : TSt, (∀ i ∈ slotsOf ent.inv, tget s'.env i = tget (encI ent.inv iv) i) → FrOK (encI ent.inv iv) s' := by
    intro s' hs' H H' n i
    by_cases hi : i ∈ slotsOf ent.inv
    ·rw [hs' i hi]
     rcases (hI.2 i hi).2.2.2.2.2 with ⟨t, z, e⟩ | ⟨t, z, e⟩ | ⟨g, e⟩
     ·have e' : tget (encI ent.inv iv) i = .val t z := e
      rw [e']; unfold LeS; simp only [SV.toAV]; rw [av_sub]; exact .refl _
     ·have e' : tget (encI ent.inv iv) i = .rp t z := e
      rw [e']; exact .refl _
     ·have e' : tget (encI ent.inv iv) i = .fn g [] := e
      rw [e']; exact .refl _
    ·rw [tget_not (encI ent.inv iv) i (by rw [hkeys]; exact hi)]; exact .any _
   have hfr2 : FrOK (encI ent.inv iv) s2 := fun H H' n i => by
    by_cases hi : i ∈ slotsOf ent.inv
    ·exact (hI.2 i hi).1 H H' n
    ·rw [tget_not (encI ent.inv iv) i (by rw [hkeys]; exact hi)]; exact .any _
   have hhead : Imp X s.toSt (ent.head iv x).toSt := (preF_ok C.TY _ _ _ hs1).trans (h2.trans (dec_imp hm h4 h5 hfr2))
   have stay : ∀ (x' : denL ent.car.tys) (s' : TSt), WFr (writes b) (ent.head iv x') s' → knownB s'.env ent.inv = true → ∀ i ∈ slotsOf ent.inv, tget s'.env i = tget (encI ent.inv iv) i := by
    intro x' s' hw hk i hi
    have hne := knownB_ok _ _ hk i hi
    have hnw := f4 i hi
    have hh : tget (ent.head iv x').env i = tget (encI ent.inv iv) i := by
     unfold Ent.head
     rw [encS_env, tget_app, if_neg]
     intro hmem
     exact f5 i hi (encSlots_keys _ _ i hmem)
    have h9 := hw i hnw
    rw [hh] at h9
    rcases (hI.2 i hi).2.2.2.2.2 with ⟨t, z, e⟩ | ⟨t, z, e⟩ | ⟨g, e⟩
    ·have e' : tget (encI ent.inv iv) i = .val t z := e
     rw [e']; exact (h9.2.1 t z e').resolve_left hne
    ·have e' : tget (encI ent.inv iv) i = .rp t z := e
     rw [e']; exact (h9.2.2.1 t z e').resolve_left hne
    ·have e' : tget (encI ent.inv iv) i = .fn g [] := e
     rw [e']; exact (h9.2.2.2 g e').resolve_left hne
   have stay2 : ∀ (s' s'' : TSt), PureSame s' s'' → (∀ i ∈ slotsOf ent.inv, tget s'.env i = tget (encI ent.inv iv) i) → ∀ i ∈ slotsOf ent.inv, tget s''.env i = tget (encI ent.inv iv) i := by
    intro s' s'' hps hs' i hi
    have h9 := hps i
    rw [hs' i hi] at h9
    rcases (hI.2 i hi).2.2.2.2.2 with ⟨t, z, e⟩ | ⟨t, z, e⟩ | ⟨g, e⟩
    ·have e' : tget (encI ent.inv iv) i = .val t z := e
     rw [e']; exact h9.2.1 t z e'
    ·have e' : tget (encI ent.inv iv) i = .rp t z := e
     rw [e']; exact h9.2.2.1 t z e'
    ·have e' : tget (encI ent.inv iv) i = .fn g [] := e
     rw [e']; exact h9.2.2.2 g e'
   have hout : ∀ (sh : Shape) (z : denL sh.tys), (∀ i ∈ pureSl sh.slots, i ∈ writes b) → (∀ i ∈ ownSl sh.slots, i ∈ writes b ++ ownSl ent.car.slots) → WFr (writes b) s (encS sh z (encI ent.inv iv)) := by
    intro sh z hsh hsho i hi
    have h9 := preF_fr (writes b) C.TY _ _ _ hs1 (preSlots_ok _ f3) i hi
    have h10 := h3 i
    by_cases hk : i ∈ slotsOf sh.slots
    ·
     have ho : i ∈ ownSl ent.car.slots := by
      rcases slot_or _ _ hk with h | h
      ·exact absurd (hsh i h) hi
      ·exact (List.mem_append.1 (hsho i h)).resolve_left hi
     have hchk := ownSl_chk _ i (by rw [Bool.and_eq_true] at h4; exact h4.1) ho
     have no : ∀ v : SV, tget s2.env i = v → (∀ k sz, v ≠ .own k sz) → (∀ k sz, v ≠ .ptr k 0 sz 0) → (∀ k q, v ≠ .nm k q) → False := by
      intro v e h1 h2 h3
      rcases hchk with ⟨k, sz, h⟩ | ⟨k, sz, h⟩ | ⟨k, sz, h⟩
      ·exact h1 k sz (e.symm.trans h)
      ·exact h2 k sz (e.symm.trans h)
      ·exact h3 k sz (e.symm.trans h)
     refine ⟨fun e => ?_, fun t z e => ?_, fun t z e => ?_, fun g e => ?_⟩
     ·exact (no _ (h10.1 (h9.1 e)) (fun _ _ h => by cases h) (fun _ _ h => by cases h) (fun _ _ h => by cases h)).elim
     ·rcases h9.2.1 t z e with e | e
      ·exact (no _ (h10.1 e) (fun _ _ h => by cases h) (fun _ _ h => by cases h) (fun _ _ h => by cases h)).elim
      ·exact (no _ (h10.2.1 t z e) (fun _ _ h => by cases h) (fun _ _ h => by cases h) (fun _ _ h => by cases h)).elim
     ·rcases h9.2.2.1 t z e with e | e
      ·exact (no _ (h10.1 e) (fun _ _ h => by cases h) (fun _ _ h => by cases h) (fun _ _ h => by cases h)).elim
      ·exact (no _ (h10.2.2.1 t z e) (fun _ _ h => by cases h) (fun _ _ h => by cases h) (fun _ _ h => by cases h)).elim
     ·rcases h9.2.2.2 g e with e | e
      ·exact (no _ (h10.1 e) (fun _ _ h => by cases h) (fun _ _ h => by cases h) (fun _ _ h => by cases h)).elim
      ·exact (no _ (h10.2.2.2 g e) (fun _ _ h => by cases h) (fun _ _ h => by cases h) (fun _ _ h => by cases h)).elim
    ·rw [encS_env, tget_app, if_neg (fun hmem => hk (encSlots_keys _ _ i hmem))]
     by_cases hii : i ∈ slotsOf ent.inv
     ·have hq := hI.2 i hii
      refine ⟨fun e => absurd (h10.1 (h9.1 e)) hq.2.1, fun t z e => ?_, fun t z e => ?_, fun g e => ?_⟩
      ·rcases h9.2.1 t z e with e | e
       ·exact absurd (h10.1 e) hq.2.1
       ·exact .inr (hq.2.2.1 t z (h10.2.1 t z e))
      ·rcases h9.2.2.1 t z e with e | e
       ·exact absurd (h10.1 e) hq.2.1
       ·exact .inr (hq.2.2.2.1 t z (h10.2.2.1 t z e))
      ·rcases h9.2.2.2 g e with e | e
       ·exact absurd (h10.1 e) hq.2.1
       ·exact .inr (hq.2.2.2.2.1 g (h10.2.2.2 g e))
     ·have e := tget_not (encI ent.inv iv) i (by rw [hkeys]; exact hii)
      exact ⟨fun _ => e, fun _ _ _ => .inl e, fun _ _ _ => .inl e, fun _ _ => .inl e⟩
   obtain ⟨n, hN⟩ := loopX_some h7
   refine TW.from hhead ?_
   unfold TW
   refine WP.ghost (α := denL ent.car.tys × Nat) (fun g => (ent.head iv g.1).toSt) (fun g => loopN (ent.step iv) g.2 g.1 = some y) (fun g => g.2) (x, n) hN ?_
   rintro ⟨x', n'⟩ hN'
   cases n' with
   | zero => cases hN'
   | succ n' =>
    have hat' : atC root (0 :: p) = some b := by simp only [atC, hat]; rfl
    cases hst : ent.step iv x' with
    | none => simp only [loopN, hst] at hN'; cases hN'
    | some q =>
     have hex := exF_ok hC hn hm hL b (0 :: p) ent.kd (ent.head iv x') q hat' (by rw [hstep]; exact hst)
     refine WP.mono hex (fun e s' hq => ?_)
     obtain ⟨s3, h9, h10, h11⟩ := hq
     unfold Ent.kd at h10
     split at h10
     ·rename_i hk
      have hs3 := stay x' s3 h11 hk
      split at h10
      ·rename_i he
       obtain rfl := exitB_ok he
       obtain ⟨s4, h12, h13, h14⟩ := renF_ok (X := X) hm _ _ _ _ h10
       obtain ⟨x2, h15, h16, h17⟩ := decS_some h12
       cases h17
       simp only [loopN, hst] at hN'
       refine ⟨(x2, n'), h9.trans (h13.trans (dec_imp hm h15 h16 (hfr s4 (stay2 _ _ h14 hs3)))), hN', Nat.lt_succ_self _⟩
      ·rename_i he
       obtain ⟨sh, s4, z, y2, h12, h13, h14, h15, h16, h17, h19, h20, h18⟩ := findX_some hm _ _ _ _ _ h10
       cases h12
       simp only [loopN, hst] at hN'
       cases hN'
       have hres : ∃ s5, Imp X s' s5.toSt ∧ K e s5 = some r ∧ WFr (writes b) s s5 := by
        refine ⟨encS sh z (encI ent.inv iv), h9.trans (h13.trans (dec_imp hm h15 h16 (hfr s4 (stay2 _ _ h14 hs3)))), ?_, hout sh z (fun i hi => f2 i (h19 i hi)) (fun i hi => f7 i (h20 i hi))⟩
        rw [← h8, h18]
       cases e with
       | normal => exact absurd he (by decide)
       | _ => exact hres
     ·cases h10
  ·cases h1
 ·cases h
end
end Go.Proofs.YtpeiomhgaembaaaDoor.Eng
set_option linter.unusedVariables false
set_option linter.unusedSimpArgs false
namespace Go.Proofs.YtpeiomhgaembaaaDoor.Eng
open Go Go.RowKit
def enumS (k : Nat) : List SV → List (Nat × SV)
 | [] => []
 | x :: r => (k, x) :: enumS (k + 1) r
def tgets (env : List (Nat × SV)) : List Nat → List SV
 | [] => []
 | t :: r => tget env t :: tgets env r
inductive RV where
 | tmp (i : Nat)
 | cell (p ty : Nat)
def RV.var : RV → ResultVar
 | .tmp i => .tmp i
 | .cell p ty => .cell p ty
def resV (C : Cx) (s : TSt) : RV → SV
 | .tmp i => tget s.env i
 | .cell p ty => (match C.T ty, tget s.env p with
  | some i, .ptr id k _ j => (match nth s.heap id with
   | some (.box _ cs) => if k = 0 ∧ j + i.size ≤ cs.length ∧ 0 < i.size ∧ (i.k.agg = true ∨ i.size = 1) then cellsT i (cs.drop j) else .any
   | _ => .any)
  | _, _ => .any)
def resVs (C : Cx) (s : TSt) : List RV → List SV
 | [] => []
 | r :: l => resV C s r :: resVs C s l
def resK (C : Cx) (res : List Ty) (rs : List RV) (s : TSt) : Option (denL res) := let s1 := frzFor C.TY s (resVs C s rs); asTL [] res (resVs C s1 rs)
def retK (C : Cx) (res : List Ty) (rs : List RV) (e : Exit) (s : TSt) : Option (denL res) := match e with
 | .normal => resK C res rs s
 | .ret => resK C res rs s
 | _ => none
def svA : SV → SV
 | .val .nilS _ => .cst (.slice none 0 0)
 | .val (.fnc f) _ => .fn f []
 | x => x
theorem svA_ok (h : List TObj) (x : SV) : (svA x).toAV h = x.toAV h := by
 unfold svA
 split <;> rfl
theorem svAL_ok (h : List TObj) (l : List SV) : SV.toAVL h (l.map svA) = SV.toAVL h l := by
 rw [SV.toAVL_eq, SV.toAVL_eq, List.map_map]
 exact List.map_congr_left fun x _ => svA_ok h x
def startS (args : List Ty) (x : denL args) : TSt := ⟨enumS 0 ((svL args x).map svA), []⟩
section
variable {P : Program} {C : Cx} {X : Ctx} {root : Code} {L : List Nat → Option Ent}
theorem tgets_eq (env : List (Nat × SV)) : ∀ l, tgets env l = l.map (tget env)
 | [] => rfl
 | t :: r => by rw [tgets, tgets_eq env r]; rfl
theorem asTL_any : ∀ (res : List Ty) (l : List SV) (y : denL res), asTL [] res l = some y → SV.any ∉ l := by
 intro res
 induction res with
 | nil => intro l y h; cases l with
  | nil => simp
  | cons x l => cases h
 | cons t r ih =>
  intro l y h
  cases l with
  | nil => simp
  | cons x l =>
   simp only [asTL] at h
   cases hp : asT [] t x with
   | none => rw [hp] at h; cases h
   | some p =>
    rw [hp] at h
    simp only at h
    cases hq : asTL [] r l with
    | none => rw [hq] at h; cases r <;> cases h
    | some q =>
     have h2 := ih l q hq
     simp only [List.mem_cons, not_or]
     refine ⟨fun e => ?_, h2⟩
     rw [← e, asT_any] at hp
     cases hp
theorem resAll_tmps (s : TSt) : ∀ rs : List RV, SV.any ∉ resVs C s rs → ∃ c, resAll C.T s.toSt (rs.map RV.var) = some (c, SV.toAVL s.heap (resVs C s rs)) ∧ c
 | [], _ => ⟨True, rfl, trivial⟩
 | r :: l, hno => by
  simp only [resVs, List.mem_cons, not_or] at hno
  obtain ⟨c, h1, h2⟩ := resAll_tmps s l hno.2
  have one : ∃ c', resOne C.T s.toSt r.var = some (c', (resV C s r).toAV s.heap) ∧ c' := by
   cases r with
   | tmp i => exact ⟨True, by simp only [RV.var, resOne, resV, TSt.toSt, tget_ok], trivial⟩
   | cell p ty =>
    have hne := hno.1
    simp only [resV] at hne ⊢
    cases hT : C.T ty with
    | none => rw [hT] at hne; exact absurd rfl hne
    | some i =>
     rw [hT] at hne
     cases hp : tget s.env p with
     | ptr id k sz j =>
      rw [hp] at hne
      simp only at hne ⊢
      cases hq : nth s.heap id with
      | none => rw [hq] at hne; exact absurd rfl hne
      | some ob =>
       rw [hq] at hne
       cases ob with
       | box e cs =>
        simp only at hne ⊢
        by_cases hc : k = 0 ∧ j + i.size ≤ cs.length ∧ 0 < i.size ∧ (i.k.agg = true ∨ i.size = 1)
        ·rw [if_pos hc]
         obtain ⟨rfl, h4, h5, h6⟩ := hc
         refine ⟨_, by simp only [RV.var, resOne, hT, TSt.toSt, tget_ok, hp, SV.toAV]; rw [show (List.map (TObj.toObj s.heap) s.heap)[id]? = some (.box e (SV.toAVL s.heap cs)) from by rw [List.getElem?_map, ← nth_eq, hq]; rfl]; simp only [objCells]; rw [toAVL_drop, cellsT_ok], ?_⟩
         refine ⟨by simp, by rw [toAVL_len]; exact h4, h5, fun h7 => ?_⟩
         rcases h6 with h6 | h6
         ·rw [h7] at h6; cases h6
         ·exact h6
        ·rw [if_neg hc] at hne; exact absurd rfl hne
       | _ => exact absurd rfl hne
     | _ => rw [hp] at hne; exact absurd rfl hne
  obtain ⟨c', h3, h4⟩ := one
  exact ⟨c' ∧ c, by simp only [List.map_cons, resAll, h1, h3, resVs, SV.toAVL], h4, h2⟩
theorem retAV_subL (f : AV → AV) (l : List AV) : (retAV l).sub f = retAV (l.map (AV.sub f)) := by
 cases l with
 | nil => rfl
 | cons x r =>
  cases r with
  | nil => rfl
  | cons y r => simp only [retAV, List.map_cons, AV.sub, AV.subL_eq]
theorem retAV_le {l m : List AV} (h : AV.leL l m) : AV.le (retAV l) (retAV m) := by
 cases l with
 | nil => cases m with
  | nil => exact .refl _
  | cons y r => exact h.elim
 | cons x r =>
  cases m with
  | nil => exact h.elim
  | cons y q =>
   cases r with
   | nil => cases q with
    | nil => exact h.1
    | cons z q => exact h.2.elim
   | cons x' r => cases q with
    | nil => exact h.2.elim
    | cons y' q => exact AV.leTup h
theorem enumS_ok (h : List TObj) : ∀ (l : List SV) (k : Nat), (enumS k l).map (fun p => (p.1, p.2.toAV h)) = enumFrom k (SV.toAVL h l)
 | [], _ => rfl
 | x :: r, k => by simp only [enumS, List.map_cons, SV.toAVL, enumFrom]; rw [enumS_ok h r]
theorem FnOK.of (hC : CxOK P C) {f : Nat} {func : Func} (hE : Enters P f) (hf : P.funcs[f]? = some func) (hb : func.body = some root) {fn : TFn} {rs : List RV} (hrs : func.results.toList = rs.map RV.var) (hn : fn.args.length + (func.ntmps - fn.args.length) = C.n)
  (hL : LsOK P C root L) (hstep : ∀ x, exF C L root [] (retK C fn.res rs) (startS fn.args x) = fn.run x) : FnOK P f fn := by
 refine ⟨hE, fun x r hr => ?_⟩
 have hlen : ∀ (ts : List Ty) (x : denL ts), (avL ts x).length = ts.length := by
  intro ts
  induction ts with
  | nil => exact fun x => rfl
  | cons t q ih =>
   intro x
   cases q with
   | nil => rfl
   | cons u q => simp only [avL, List.length_cons]; rw [ih x.2]; rfl
 refine FSpec.of_WP' hC.T hf hb (fun X hXn hXm => ?_)
 have hst : (startS fn.args x).toSt = ⟨enumFrom 0 (avL fn.args x), []⟩ := by
  simp only [startS, TSt.toSt, enumS_ok, svAL_ok, svL_av, List.map_nil]
 have h1 := exF_ok (β := denL fn.res) hC (X := X) (by rw [hXn, hlen]; exact hn) hXm hL root [] (retK C fn.res rs) (startS fn.args x) r rfl (by rw [hstep]; exact hr)
 unfold TW at h1
 rw [hst] at h1
 refine h1.monoR (fun e s hq => ?_)
 obtain ⟨s1, h2, h3, _⟩ := hq
 have key : resK C fn.res rs s1 = some r → ∃ s', (∀ a w, Rep X s a w → Rep X s' a w) ∧ Ret C.T func 0 (fun r' h => r' = retAV (avL fn.res r) ∧ h = []) s' := by
  intro h3
  unfold resK at h3
  have hfz := frzFor_ok (X := X) (C := C) (s := s1) (resVs C s1 rs)
  generalize frzFor C.TY s1 (resVs C s1 rs) = s2 at h3 hfz
  simp only at h3
  refine ⟨s2.toSt, h2.trans hfz.1, ?_⟩
  unfold Ret
  rw [hrs]
  obtain ⟨c, h4, h5⟩ := resAll_tmps (C := C) s2 rs (asTL_any _ _ _ h3)
  rw [h4]
  refine ⟨h5, [], by simp, by simp, _, ?_, rfl, by simp [selObjs]⟩
  have h6 := asTL_ok (Lends.none (renAt []) s2.heap) _ _ _ h3
  have e : List.range 0 ++ [] = ([] : List Nat) := rfl
  rw [e, retAV_subL]
  refine retAV_le ?_
  rw [SV.toAVL_eq]
  exact h6
 cases e with
 | normal => exact key h3
 | ret => exact key h3
 | _ => exact absurd h3 (by simp [retK])
def nilOwns (TY : Nat → Option Ty) : List Ty → List (Option Nat) → List RV → TSt → TSt
 | t :: ts, os, r :: rs, s => nilOwns TY ts os.tail rs (match t, ownHd os, r with
  | .slice u, some e, .tmp i => (match preF TY [.nil i e u] s with | some s' => s' | none => s)
  | _, _, _ => s)
 | _, _, _, s => s
def restOf : List (Option Nat) → List SV → List SV
 | _, [] => []
 | os, x :: l => (match ownHd os with | some _ => restOf os.tail l | none => x :: restOf os.tail l)
def consId : Option Nat → SV → List Nat → List Nat
 | some _, .own id _, r => id :: r
 | _, _, r => r
theorem consId_no {o : Option Nat} {x : SV} {r : List Nat} (h : ∀ e id sz, o = some e → x ≠ .own id sz) : consId o x r = r := by
 unfold consId
 split
 ·rename_i e id sz
  exact absurd rfl (h e id sz rfl)
 ·rfl
def ownIds : List (Option Nat) → List SV → List Nat
 | _, [] => []
 | os, x :: l => consId (ownHd os) x (ownIds os.tail l)
def noDup : List Nat → Bool
 | [] => true
 | x :: r => !memN r x && noDup r
def asO (h : List TObj) : (t : Ty) → Option Nat → SV → Option t.den
 | .slice u, some e, x => (match x with
  | .own id sz => (match nth h id with
   | some (.row e' u' xs) => if e' = e ∧ sz = u.size then castD (.slice u) (.slice u') xs else none
   | _ => none)
  | _ => none)
 | t, _, x => asT [] t x
def asTLO (h : List TObj) : (ts : List Ty) → List (Option Nat) → List SV → Option (denL ts)
 | [], _, l => (match l with | [] => some () | _ :: _ => none)
 | t :: r, os, l => (match l with
  | [] => none
  | x :: l => (match asO h t (ownHd os) x with
   | some a => consD t r a (asTLO h r os.tail l)
   | none => none))
noncomputable def cutOwns {β : Type} : List (Option Nat) → List RV → TSt → (TSt → Option β) → Option β
 | os, r :: rs, s, k => (match ownHd os, r with
  | some _, .tmp i => (match tget s.env i with
   | .cut id sz 0 len => (match nth s.heap id with
    | some (.row e t xs) => (match decide (sz = t.size) with
     | true => ck (len ≤ List.length xs) (cutOwns os.tail rs ((s.subAll (killS id) id (.row e t (List.take len xs))).put (some i) (.own id sz)) k)
     | false => none)
    | _ => none)
   | _ => cutOwns os.tail rs s k)
  | _, _ => cutOwns os.tail rs s k)
 | _, [], s, k => k s
noncomputable def resKO (C : Cx) (res : List Ty) (own : List (Option Nat)) (rs : List RV) (s : TSt) : Option (denL res) :=
 cutOwns own rs (nilOwns C.TY res own rs s) fun s0 =>
 let s1 := frzFor C.TY s0 (restOf own (resVs C s0 rs))
 match noDup (ownIds own (resVs C s1 rs)) with
 | true => asTLO s1.heap res own (resVs C s1 rs)
 | false => none
noncomputable def retKO (C : Cx) (res : List Ty) (own : List (Option Nat)) (rs : List RV) (e : Exit) (s : TSt) : Option (denL res) := match e with
 | .normal => resKO C res own rs s
 | .ret => resKO C res own rs s
 | _ => none
theorem nilOwns_ok (TY : Nat → Option Ty) : ∀ (ts : List Ty) (os : List (Option Nat)) (rs : List RV) (s : TSt), Imp X s.toSt (nilOwns TY ts os rs s).toSt := by
 intro ts
 induction ts with
 | nil => intro os rs s; exact .refl _ _
 | cons t ts ih =>
  intro os rs s
  cases rs with
  | nil => exact .refl _ _
  | cons r rs =>
   unfold nilOwns
   refine Imp.trans ?_ (ih _ _ _)
   split
   ·rename_i u e i _
    cases hp : preF TY [.nil i e u] s with
    | none => exact .refl _ _
    | some s' => exact preF_ok TY _ _ _ hp
   ·exact .refl _ _
theorem cutOwns_ok {β : Type} (hm : X.m = 0) : ∀ (rs : List RV) (os : List (Option Nat)) (s : TSt) (k : TSt → Option β) (r : β), cutOwns os rs s k = some r → ∃ s', k s' = some r ∧ Imp X s.toSt s'.toSt := by
 intro rs
 induction rs with
 | nil =>
  intro os s k r h
  exact ⟨s, by unfold cutOwns at h; exact h, .refl _ _⟩
 | cons q rs ih =>
  intro os s k r h
  unfold cutOwns at h
  split at h
  ·rename_i i _
   split at h
   ·rename_i id sz len hi
    split at h
    ·rename_i e t xs hq
     split at h
     ·rename_i hd
      obtain rfl := of_decide_eq_true hd
      obtain ⟨hc, h⟩ := ck_some h
      obtain ⟨s', h1, h2⟩ := ih _ _ k r h
      refine ⟨s', h1, Imp.trans (fun a w hr => ?_) h2⟩
      have hq' : s.toSt.heap[id]? = some (.row e t.size (List.map t.cells xs)) := by rw [TSt.heap_get, hq]; rfl
      have h4 := Rep.takeRow hr hm (i := i) (len := len) (by simp only [TSt.toSt, tget_ok]; rw [hi]; rfl) hq' (by rw [mapLen (u := t) xs]; exact hc)
      refine h4.weak ?_
      rw [TSt.put_ok]
      have h5 := subAll_le (s := s) (f := killAt id) (g := killS id) (id := id) (ob := .row e t (List.take len xs)) (oa := .row e t.size ((List.map t.cells xs).take len)) sub_kill (by
       have e2 : (List.map t.cells xs).take len = (List.take len xs).map t.cells := (List.map_take ..).symm
       rw [e2]; exact ObjLe.refl _)
      refine StLe.put (s := ⟨envSub (killAt id) s.toSt.env, (s.toSt.heap.map (AObj.sub (killAt id))).set id (.row e t.size ((List.map t.cells xs).take len))⟩) h5 ?_ (some i)
      have hid : id < s.heap.length := by rw [nth_eq] at hq; exact (List.getElem?_eq_some_iff.1 hq).1
      simp only [SV.toAV]
      rw [rowLen_of (e := e) (t := t) (xs := List.take len xs) (by rw [nth_eq]; simp [TSt.subAll, setH_eq, hid])]
      have e3 : (List.take len xs).length = len := by
       have e4 : (List.take len xs).length = min len (List.length xs) := List.length_take ..
       rw [e4]; omega
      rw [e3]
      exact .refl _
     ·cases h
    ·cases h
   ·exact ih _ _ _ _ h
  ·exact ih _ _ _ _ h
theorem memN_notin : ∀ {l : List Nat} {x : Nat}, memN l x = false → x ∉ l
 | [], x, _ => by simp
 | y :: r, x, h => by
  unfold memN at h
  split at h
  ·cases h
  ·rename_i e
   simp only [List.mem_cons, not_or]
   exact ⟨fun h' => e h'.symm, memN_notin h⟩
theorem noDup_ok : ∀ {l : List Nat}, noDup l = true → l.Nodup
 | [], _ => List.nodup_nil
 | x :: r, h => by
  simp only [noDup, Bool.and_eq_true, Bool.not_eq_true'] at h
  exact List.nodup_cons.2 ⟨memN_notin h.1, noDup_ok h.2⟩
theorem idx_of : ∀ {l : List Nat} {k i : Nat}, l.Nodup → l[k]? = some i → idx l i = some k
 | [], _, _, _, h => by simp at h
 | a :: r, 0, i, _, h => by simp at h; subst h; simp [idx]
 | a :: r, k + 1, i, hn, h => by
  rw [List.nodup_cons] at hn
  have h1 : r[k]? = some i := by simpa using h
  have hne : i ≠ a := fun e => hn.1 (e ▸ List.mem_of_getElem? h1)
  simp [idx, hne, idx_of hn.2 h1]
theorem asO_ok {h : List TObj} {K : List Nat} {n : Nat} (hK : K.Nodup) (t : Ty) (o : Option Nat) (x : SV) (y : t.den) (hy : asO h t o x = some y) (hn : ∀ e id sz, o = some e → x = .own id sz → K[n]? = some id) :
  AV.le ((x.toAV h).sub (renAt K)) (ownAV n t o y) ∧ ((∃ e id sz u, ∃ xs : List u.den, o = some e ∧ x = .own id sz ∧ h[id]? = some (.row e u xs) ∧ ownObj t o y = [.row e u xs]) ∨ (ownObj t o y = [] ∧ ∀ e id sz, o = some e → x ≠ .own id sz)) := by
 have plain : asT [] t x = some y → ownAV n t o y = t.av y → ownObj t o y = [] → (∀ e id sz, o = some e → x ≠ .own id sz) → AV.le ((x.toAV h).sub (renAt K)) (ownAV n t o y) ∧ ((∃ e id sz u, ∃ xs : List u.den, o = some e ∧ x = .own id sz ∧ h[id]? = some (.row e u xs) ∧ ownObj t o y = [.row e u xs]) ∨ (ownObj t o y = [] ∧ ∀ e id sz, o = some e → x ≠ .own id sz)) := by
  intro h1 h2 h3 h4
  rw [h2]
  exact ⟨asT_ok (Lends.none _ h) h1, .inr ⟨h3, h4⟩⟩
 cases o with
 | none =>
  refine plain ?_ ?_ ?_ (fun e id sz he => by cases he)
  ·cases t <;> exact hy
  ·cases t <;> rfl
  ·cases t <;> rfl
 | some e =>
  cases t with
  | slice u =>
   simp only [asO] at hy
   split at hy
   ·rename_i id sz
    split at hy
    ·rename_i e' u' xs hq
     split at hy
     ·rename_i he
      obtain ⟨rfl, rfl⟩ := he
      obtain ⟨hty, hv⟩ := castD_ok hy
      cases hty
      have hv' : (xs : (Ty.slice u).den) = y := hv
      subst hv'
      rw [nth_eq] at hq
      refine ⟨?_, .inl ⟨e', id, _, u, xs, rfl, rfl, hq, rfl⟩⟩
      simp only [SV.toAV, AV.sub, renAt, idx_of hK (hn e' id _ rfl rfl), ownAV]
      rw [rowLen_of (by rw [nth_eq]; exact hq)]
      exact .refl _
     ·cases hy
    ·cases hy
   ·cases hy
  | int k => exact plain hy rfl rfl (fun e' id sz _ hx => by subst hx; simp [asO, asT, Ty.isAgg, asm] at hy)
  | byte => exact plain hy rfl rfl (fun e' id sz _ hx => by subst hx; simp [asO, asT, Ty.isAgg, asm] at hy)
  | bool => exact plain hy rfl rfl (fun e' id sz _ hx => by subst hx; simp [asO, asT, Ty.isAgg, asm] at hy)
  | str => exact plain hy rfl rfl (fun e' id sz _ hx => by subst hx; simp [asO, asT, Ty.isAgg, asm] at hy)
  | one u => exact plain hy rfl rfl (fun e' id sz _ hx => by subst hx; simp [asO, asT, Ty.isAgg] at hy)
  | pair a b => exact plain hy rfl rfl (fun e' id sz _ hx => by subst hx; simp [asO, asT, Ty.isAgg] at hy)
  | ptr u => exact plain hy rfl rfl (fun e' id sz _ hx => by subst hx; simp [asO, asT, Ty.isAgg, asm] at hy)
  | nilS => exact plain hy rfl rfl (fun e' id sz _ hx => by subst hx; simp [asO, asT, Ty.isAgg, asm] at hy)
  | fnc f => exact plain hy rfl rfl (fun e' id sz _ hx => by subst hx; simp [asO, asT, Ty.isAgg, asm] at hy)
theorem resO_ok {h : List TObj} {K : List Nat} (hK : K.Nodup) : ∀ (ts : List Ty) (os : List (Option Nat)) (xs : List SV) (y : denL ts) (n : Nat), asTLO h ts os xs = some y → (∀ (j id : Nat), (ownIds os xs)[j]? = some id → K[n + j]? = some id) →
  AV.leL ((SV.toAVL h xs).map (AV.sub (renAt K))) (avLO n ts os y) ∧ (∀ (j : Nat) (ob : TObj), (ownObjs ts os y)[j]? = some ob → ∃ id, (ownIds os xs)[j]? = some id ∧ h[id]? = some ob) ∧ (ownIds os xs).length = (ownObjs ts os y).length := by
 intro ts
 induction ts with
 | nil =>
  intro os xs y n hy hn
  cases xs with
  | nil => exact ⟨trivial, fun j ob hob => by simp [ownObjs] at hob, rfl⟩
  | cons x l => cases hy
 | cons t r ih =>
  intro os xs y n hy hn
  cases xs with
  | nil => cases hy
  | cons x l =>
   simp only [asTLO] at hy
   cases hp : asO h t (ownHd os) x with
   | none => rw [hp] at hy; cases hy
   | some p =>
    rw [hp] at hy
    simp only at hy
    cases hq : asTLO h r os.tail l with
    | none => rw [hq] at hy; cases r <;> cases hy
    | some q =>
     rw [hq] at hy
     have h1 := asO_ok (n := n) hK t (ownHd os) x p hp (fun e id sz he hx => hn 0 id (by simp only [ownIds, he, hx, consId]; rfl))
     have hids : (∃ id, ownIds os (x :: l) = id :: ownIds os.tail l ∧ (ownObj t (ownHd os) p).length = 1 ∧ ∀ (j : Nat) (ob : TObj), (ownObj t (ownHd os) p)[j]? = some ob → j = 0 ∧ h[id]? = some ob) ∨ (ownIds os (x :: l) = ownIds os.tail l ∧ ownObj t (ownHd os) p = []) := by
      rcases h1.2 with ⟨e, id, sz, u, zs, he, hx, hid, hob⟩ | ⟨hob, hno⟩
      ·refine .inl ⟨id, by simp only [ownIds, he, hx, consId], by rw [hob]; rfl, fun j ob hj => ?_⟩
       rw [hob] at hj
       cases j with
       | zero => simp at hj; subst hj; exact ⟨rfl, hid⟩
       | succ j => simp at hj
      ·refine .inr ⟨?_, hob⟩
       exact consId_no hno
     have step : ∀ (n' : Nat), n' = n + (ownObj t (ownHd os) p).length → AV.leL ((SV.toAVL h l).map (AV.sub (renAt K))) (avLO n' r os.tail q) ∧ (∀ (j : Nat) (ob : TObj), (ownObjs r os.tail q)[j]? = some ob → ∃ id, (ownIds os.tail l)[j]? = some id ∧ h[id]? = some ob) ∧ (ownIds os.tail l).length = (ownObjs r os.tail q).length := by
      intro n' hn'
      refine ih os.tail l q n' hq (fun j id hj => ?_)
      rcases hids with ⟨id0, e1, e2, _⟩ | ⟨e1, e2⟩
      ·have := hn (j + 1) id (by rw [e1]; simpa using hj)
       rw [hn', e2, show n + 1 + j = n + (j + 1) by omega]; exact this
      ·rw [hn', e2]; exact hn j id (by rw [e1]; exact hj)
     have comb : ∀ (l2 : List TObj), (∀ (j : Nat) (ob : TObj), l2[j]? = some ob → ∃ id, (ownIds os.tail l)[j]? = some id ∧ h[id]? = some ob) → (ownIds os.tail l).length = l2.length →
       (∀ (j : Nat) (ob : TObj), (ownObj t (ownHd os) p ++ l2)[j]? = some ob → ∃ id, (ownIds os (x :: l))[j]? = some id ∧ h[id]? = some ob) ∧ (ownIds os (x :: l)).length = (ownObj t (ownHd os) p ++ l2).length := by
      intro l2 g1 g2
      rcases hids with ⟨id0, e1, e2, e3⟩ | ⟨e1, e2⟩
      ·refine ⟨fun j ob hj => ?_, by rw [e1, List.length_append, e2, List.length_cons, g2]; omega⟩
       rw [e1]
       cases j with
       | zero =>
        rw [List.getElem?_append_left (by omega)] at hj
        exact ⟨id0, rfl, (e3 0 ob hj).2⟩
       | succ j =>
        rw [List.getElem?_append_right (by omega), e2] at hj
        obtain ⟨id, h5, h6⟩ := g1 j ob (by simpa using hj)
        exact ⟨id, by simpa using h5, h6⟩
      ·rw [e1, e2]; exact ⟨g1, g2⟩
     cases r with
     | nil =>
      cases hy
      obtain ⟨s1, s2, s3⟩ := step _ rfl
      obtain ⟨c1, c2⟩ := comb [] (fun j ob hj => by simp at hj) (by
       cases l with
       | nil => rfl
       | cons _ _ => cases hq)
      rw [List.append_nil] at c1 c2
      exact ⟨⟨h1.1, by cases l with | nil => trivial | cons _ _ => cases hq⟩, c1, c2⟩
     | cons u r =>
      cases hy
      obtain ⟨s1, s2, s3⟩ := step _ rfl
      obtain ⟨c1, c2⟩ := comb _ s2 s3
      exact ⟨⟨h1.1, s1⟩, c1, c2⟩
theorem asTLO_any {h : List TObj} : ∀ (res : List Ty) (os : List (Option Nat)) (l : List SV) (y : denL res), asTLO h res os l = some y → SV.any ∉ l := by
 intro res
 induction res with
 | nil => intro os l y hy; cases l with
  | nil => simp
  | cons x l => cases hy
 | cons t r ih =>
  intro os l y hy
  cases l with
  | nil => simp
  | cons x l =>
   simp only [asTLO] at hy
   cases hp : asO h t (ownHd os) x with
   | none => rw [hp] at hy; cases hy
   | some p =>
    rw [hp] at hy
    simp only at hy
    cases hq : asTLO h r os.tail l with
    | none => rw [hq] at hy; cases r <;> cases hy
    | some q =>
     have h2 := ih _ l q hq
     simp only [List.mem_cons, not_or]
     refine ⟨fun e => ?_, h2⟩
     subst e
     have hno : ∀ o, asO h t o .any = none := fun o => by
      cases o <;> cases t <;> rfl
     rw [hno] at hp; cases hp
theorem FnOKo.of (hC : CxOK P C) {f : Nat} {func : Func} (hE : Enters P f) (hf : P.funcs[f]? = some func) (hb : func.body = some root) {fn : TFo} {rs : List RV} (hrs : func.results.toList = rs.map RV.var) (hn : fn.args.length + (func.ntmps - fn.args.length) = C.n)
  (hL : LsOK P C root L) (hstep : ∀ x, exF C L root [] (retKO C fn.res fn.own rs) (startS fn.args x) = fn.run x) : FnOKo P f fn := by
 refine ⟨hE, fun x r hr => ?_⟩
 have hlen : ∀ (ts : List Ty) (x : denL ts), (avL ts x).length = ts.length := by
  intro ts
  induction ts with
  | nil => exact fun x => rfl
  | cons t q ih =>
   intro x
   cases q with
   | nil => rfl
   | cons u q => simp only [avL, List.length_cons]; rw [ih x.2]; rfl
 refine FSpec.of_WP' hC.T hf hb (fun X hXn hXm => ?_)
 have hst : (startS fn.args x).toSt = ⟨enumFrom 0 (avL fn.args x), []⟩ := by
  simp only [startS, TSt.toSt, enumS_ok, svAL_ok, svL_av, List.map_nil]
 have h1 := exF_ok (β := denL fn.res) hC (X := X) (by rw [hXn, hlen]; exact hn) hXm hL root [] (retKO C fn.res fn.own rs) (startS fn.args x) r rfl (by rw [hstep]; exact hr)
 unfold TW at h1
 rw [hst] at h1
 refine h1.monoR (fun e s hq => ?_)
 obtain ⟨s1, h2, h3, _⟩ := hq
 have key : resKO C fn.res fn.own rs s1 = some r → ∃ s', (∀ a w, Rep X s a w → Rep X s' a w) ∧ Ret C.T func 0 (fun r' h => r' = retAV (avLO 0 fn.res fn.own r) ∧ h = (ownObjs fn.res fn.own r).map (TObj.toObj [])) s' := by
  intro h3
  unfold resKO at h3
  have hno0 := nilOwns_ok (X := X) C.TY fn.res fn.own rs s1
  obtain ⟨s0, h3, hno1⟩ := cutOwns_ok hXm _ _ _ _ _ h3
  have hno := hno0.trans hno1
  simp only at h3
  have hfz := frzFor_ok (X := X) (C := C) (s := s0) (restOf fn.own (resVs C s0 rs))
  generalize frzFor C.TY s0 (restOf fn.own (resVs C s0 rs)) = s2 at h3 hfz
  split at h3
  ·rename_i hnd
   have hK := noDup_ok hnd
   refine ⟨s2.toSt, (h2.trans hno).trans hfz.1, ?_⟩
   unfold Ret
   rw [hrs]
   obtain ⟨c, h4, h5⟩ := resAll_tmps (C := C) s2 rs (asTLO_any _ _ _ _ h3)
   rw [h4]
   obtain ⟨h6, h7, h8⟩ := resO_ok hK _ _ _ _ 0 h3 (fun j id hj => by rw [Nat.zero_add]; exact hj)
   have hlen2 : s2.toSt.heap.length = s2.heap.length := by simp [TSt.toSt]
   have hget : ∀ (j id : Nat), (ownIds fn.own (resVs C s2 rs))[j]? = some id → ∃ ob, (ownObjs fn.res fn.own r)[j]? = some ob ∧ s2.heap[id]? = some ob := by
    intro j id hj
    have hjl : j < (ownObjs fn.res fn.own r).length := by rw [← h8]; exact (List.getElem?_eq_some_iff.1 hj).1
    obtain ⟨id', e1, e2⟩ := h7 j _ (List.getElem?_eq_getElem hjl)
    rw [hj] at e1; cases e1
    exact ⟨_, List.getElem?_eq_getElem hjl, e2⟩
   refine ⟨h5, ownIds fn.own (resVs C s2 rs), by simpa using hK, fun i hi => ?_, _, ?_, rfl, ?_⟩
   ·obtain ⟨j, hj⟩ := List.getElem?_of_mem hi
    obtain ⟨ob, _, h9⟩ := hget j i hj
    rw [hlen2]; exact (List.getElem?_eq_some_iff.1 h9).1
   ·have e : List.range 0 ++ ownIds fn.own (resVs C s2 rs) = ownIds fn.own (resVs C s2 rs) := rfl
    rw [e, retAV_subL]
    exact retAV_le h6
   ·have e : List.range 0 ++ ownIds fn.own (resVs C s2 rs) = ownIds fn.own (resVs C s2 rs) := rfl
    rw [e]
    apply List.ext_getElem?
    intro j
    simp only [selObjs, List.getElem?_map]
    cases hj : (ownIds fn.own (resVs C s2 rs))[j]? with
    | none =>
     rw [List.getElem?_eq_none (by rw [← h8]; exact List.getElem?_eq_none_iff.1 hj)]; rfl
    | some id =>
     obtain ⟨ob, e1, e2⟩ := hget j id hj
     rw [e1]
     simp only [Option.map_some]
     have e3 : s2.toSt.heap[id]? = some (ob.toObj s2.heap) := by simp [TSt.toSt, e2]
     rw [e3, Option.getD_some, row_sub (ownObjs_row _ _ _ ob (List.mem_of_getElem? e1)) _ _ []]
  ·cases h3
 cases e with
 | normal => exact key h3
 | ret => exact key h3
 | _ => exact absurd h3 (by simp [retKO])
def lkO : List (Nat × TFo) → Nat → Option TFo
 | [], _ => none
 | (g, fn) :: r, f => (match decide (g = f) with | true => some fn | false => lkO r f)
def OsOK (P : Program) (l : List (Nat × TFo)) : Prop := ∀ f fn, lkO l f = some fn → FnOKo P f fn
theorem OsOK.nil : OsOK P [] := fun f fn h => by cases h
theorem OsOK.cons {l : List (Nat × TFo)} {g : Nat} {fn : TFo} (h : FnOKo P g fn) (hl : OsOK P l) : OsOK P ((g, fn) :: l) := by
 intro f fn' h'
 unfold lkO at h'
 split at h'
 ·rename_i he
  cases h'
  rw [← of_decide_eq_true he]; exact h
 ·exact hl f fn' h'
theorem mps_of (l : List (Nat × Nat)) (h : l.all (fun p => mapB P p.1 p.2) = true) : ∀ t e, mapGet l t = some e → mapB P t e = true := by
 induction l with
 | nil => exact fun t e h => by cases h
 | cons p r ih =>
  obtain ⟨k, e'⟩ := p
  intro t e ht
  rw [List.all_cons, Bool.and_eq_true] at h
  unfold mapGet at ht
  split at ht
  ·rename_i hk; subst hk; cases ht; exact h.1
  ·exact ih h.2 t e ht
theorem eqs_of (l : List Nat) (h : l.all (eqB P) = true) : ∀ t, memN l t = true → eqB P t = true := fun t ht => List.all_eq_true.1 h t (memN_ok l t ht)
def eqLN : List Nat → List Nat → Bool
 | [], [] => true
 | a :: r, b :: q => (match decide (a = b) with | true => eqLN r q | false => false)
 | _, _ => false
theorem eqLN_ok : ∀ {l m : List Nat}, eqLN l m = true → l = m
 | [], [], _ => rfl
 | a :: r, b :: q, h => by
  unfold eqLN at h
  split at h
  ·rename_i e; rw [of_decide_eq_true e, eqLN_ok h]
  ·cases h
def lkL : List (List Nat × Ent) → List Nat → Option Ent
 | [], _ => none
 | (q, e) :: r, p => (match eqLN q p with | true => some e | false => lkL r p)
theorem LsOK.nil : LsOK P C root (lkL []) := fun p ent b h => by cases h
def bodyAt (root : Code) (p : List Nat) : Code := match atC root p with
 | some (.loop b) => b
 | _ => .skip
theorem LsOK.cons (hC : CxOK P C) {l : List (List Nat × Ent)} (hl : LsOK P C root (lkL l)) {q : List Nat} {ent : Ent} (hfit : ent.fits (bodyAt root q) = true)
  (hstep : ∀ iv x, exF C (lkL l) (bodyAt root q) (0 :: q) ent.kd (ent.head iv x) = ent.step iv x) : LsOK P C root (lkL ((q, ent) :: l)) := by
 intro p ent' b h hat
 unfold lkL at h
 split at h
 ·rename_i he
  obtain rfl := eqLN_ok he
  cases h
  have e : bodyAt root q = b := by simp only [bodyAt, hat]
  rw [e] at hfit hstep
  exact LoopOK.of hC hl hat hfit hstep
 ·exact hl p ent' b h hat
def lkF : List (Nat × TFn) → Nat → Option TFn
 | [], _ => none
 | (g, fn) :: r, f => (match decide (g = f) with | true => some fn | false => lkF r f)
def FsOK (P : Program) (l : List (Nat × TFn)) : Prop := ∀ f fn, lkF l f = some fn → FnOK P f fn
theorem FsOK.nil : FsOK P [] := fun f fn h => by cases h
theorem FsOK.cons {l : List (Nat × TFn)} {g : Nat} {fn : TFn} (h : FnOK P g fn) (hl : FsOK P l) : FsOK P ((g, fn) :: l) := by
 intro f fn' h'
 unfold lkF at h'
 split at h'
 ·rename_i he
  cases h'
  rw [← of_decide_eq_true he]; exact h
 ·exact hl f fn' h'
def lkP : List (Nat × Nat × Plan) → Nat → Option (Nat × Plan)
 | [], _ => none
 | p :: r, i => if i = p.1 then some p.2 else lkP r i
def lkD : List (Nat × Nat × List (Nat × Bool) × Option (Nat × List (Nat × Bool) × Nat × List (Nat × Bool))) → Nat → Option (Nat × List (Nat × Bool) × Option (Nat × List (Nat × Bool) × Nat × List (Nat × Bool)))
 | [], _ => none
 | (r, d) :: l, k => (match decide (r = k) with | true => some d | false => lkD l k)
def lkT : List (Nat × Ty) → Nat → Option Ty
 | [], _ => none
 | (r, d) :: l, k => (match decide (r = k) with | true => some d | false => lkT l k)
end
end Go.Proofs.YtpeiomhgaembaaaDoor.Eng
set_option linter.unusedVariables false
namespace Go.Proofs.YtpeiomhgaembaaaDoor.Eng
open Go
section
variable {α β γ : Type}
noncomputable def dup (a : Option β) : Option β := both a a
theorem dup_eq (a : Option β) : dup a = a := both_same a
inductive Tr where
 | leaf
 | node (a b : Tr)
noncomputable def mix : Tr → Option β → Option β
 | .leaf, t => t
 | .node a b, t => both (mix a t) (mix b t)
theorem mix_eq : ∀ (s : Tr) (t : Option β), mix s t = t
 | .leaf, t => rfl
 | .node a b, t => by rw [mix, mix_eq a, mix_eq b]; exact both_same t
theorem cb_t {x y : Option β} : cb true x y = x := rfl
theorem cb_f {x y : Option β} : cb false x y = y := rfl
theorem cb_dec {p : Prop} [h : Decidable p] {x y : Option β} : cb (decide p) x y = if p then x else y := by
 by_cases hp : p <;> simp [hp, cb]
theorem cb_not {b : Bool} {x y : Option β} : cb (!b) x y = cb b y x := by cases b <;> rfl
theorem ob_s {a : α} {k : α → Option β} : ob (some a) k = k a := rfl
theorem ob_n {k : α → Option β} : ob none k = none := rfl
theorem caseS_l {a : α} {f : α → Option β} {g : γ → Option β} : caseS (.inl a) f g = f a := rfl
theorem caseS_r {a : γ} {f : α → Option β} {g : γ → Option β} : caseS (.inr a) f g = g a := rfl
theorem ck_in {x : Int} {a : Option β} (h1 : -9223372036854775808 ≤ x) (h2 : x ≤ 9223372036854775807) : ck (InR x) a = a := ck_pos ⟨h1, h2⟩
theorem rd_nat (d : α) (xs : List α) (k : Nat) : rd d xs (k : Int) = xs.getD k d := rfl
theorem rd_some {d : α} {xs : List α} {k : Nat} {x : α} (h : xs[k]? = some x) : rd d xs (k : Int) = x := by rw [rd_nat, List.getD, h]; rfl
theorem rd_lt {d : α} {xs : List α} {k : Nat} (h : k < xs.length) : rd d xs (k : Int) = xs[k] := rd_some (List.getElem?_eq_getElem h)
theorem loopX_done {X R : Type} {f : X → Option (X ⊕ R)} {x : X} {r : R} (h : f x = some (.inr r)) : loopX f x = some r := by rw [loopX_step, h]
theorem loopX_next {X R : Type} {f : X → Option (X ⊕ R)} {x x' : X} (h : f x = some (.inl x')) : loopX f x = loopX f x' := by rw [loopX_step, h]
end
end Go.Proofs.YtpeiomhgaembaaaDoor.Eng
set_option linter.unusedVariables false
set_option linter.unusedSimpArgs false
namespace Go.Proofs.YtpeiomhgaembaaaDoor.Eng
open Go Go.RowKit
def tyLB (S : Nat → Ty → Bool) : List Nat → Ty → Bool
 | [e], ty => S e ty
 | e :: e2 :: r, .pair a b => S e a && tyLB S (e2 :: r) b
 | _, _ => false
def tyB (T : Tab) : Nat → Nat → Ty → Bool
 | 0, _, _ => false
 | m + 1, t, .int k => (match T t with | some ⟨.int k', _, _, _⟩ => decide (k' = k) | _ => false)
 | m + 1, t, .byte => (match T t with | some ⟨.int k', _, _, _⟩ => decide (k' = .u8) | _ => false)
 | m + 1, t, .bool => (match T t with | some ⟨.bool, _, _, _⟩ => true | _ => false)
 | m + 1, t, .str => (match T t with | some ⟨.str, _, _, _⟩ => true | _ => false)
 | m + 1, t, .slice u => (match T t with | some ⟨.slice e, _, _, _⟩ => (match T e with | some i => decide (i.size = u.size) && tyB T m e u | none => false) | _ => false)
 | m + 1, t, .one u => (match T t with | some ⟨.struct fs, _, _, _⟩ => tyLB (tyB T m) (fs.map (·.2)) u | _ => false)
 | m + 1, t, .pair a b => (match T t with | some ⟨.struct fs, _, _, _⟩ => tyLB (tyB T m) (fs.map (·.2)) (.pair a b) | _ => false)
 | m + 1, _, .ptr _ => false
 | m + 1, _, .nilS => false
 | m + 1, _, .fnc _ => false
def InL (S : Nat → (ty : Ty) → ty.den → Prop) : List Nat → (ty : Ty) → ty.den → Prop
 | [e], ty, x => S e ty x
 | e :: e2 :: r, .pair a b, x => S e a x.1 ∧ InL S (e2 :: r) b x.2
 | _, _, _ => True
def InD (T : Tab) : Nat → Nat → (ty : Ty) → ty.den → Prop
 | 0, _, _, _ => True
 | m + 1, t, .int k, x => (Lit.int k x).wf = true
 | m + 1, t, .str, x => ByteArray.size x ≤ reachBytes
 | m + 1, t, .slice u, xs => (match T t with | some ⟨.slice e, _, _, _⟩ => (match T e with | some i => List.length xs * i.bytes ≤ reachBytes ∧ ∀ x : u.den, List.Mem x xs → InD T m e u x | none => True) | _ => True)
 | m + 1, t, .one u, x => (match T t with | some ⟨.struct fs, _, _, _⟩ => InL (InD T m) (fs.map (·.2)) u x | _ => True)
 | m + 1, t, .pair a b, x => (match T t with | some ⟨.struct fs, _, _, _⟩ => InL (InD T m) (fs.map (·.2)) (.pair a b) x | _ => True)
 | _, _, _, _ => True
theorem shapeL_ty {S : Nat → List AV → Prop} {B : Nat → Ty → Bool} {D : Nat → (ty : Ty) → ty.den → Prop} (h : ∀ e ty xs, B e ty = true → S e xs → ∃ x : ty.den, xs = ty.cells x ∧ D e ty x) :
  ∀ (es : List Nat) (ty : Ty) (xs : List AV), tyLB B es ty = true → ShapeL S es xs → ∃ x : ty.den, xs = ty.cells x ∧ InL D es ty x := by
 intro es
 induction es with
 | nil => intro ty xs hb _; cases ty <;> cases hb
 | cons e r ih =>
  intro ty xs hb hs
  obtain ⟨a, b, rfl, ha, hb'⟩ := hs
  cases r with
  | nil =>
   have e0 : b = [] := hb'
   subst e0
   have hb2 : B e ty = true := by cases ty <;> exact hb
   obtain ⟨x, h1, h2⟩ := h e ty a hb2 ha
   refine ⟨x, by rw [h1, List.append_nil], ?_⟩
   cases ty <;> exact h2
  | cons e2 r =>
   cases ty with
   | pair p q =>
    simp only [tyLB, Bool.and_eq_true] at hb
    obtain ⟨x, h1, h2⟩ := h e p a hb.1 ha
    obtain ⟨y, h3, h4⟩ := ih q b hb.2 hb'
    exact ⟨(x, y), by rw [h1, h3]; rfl, h2, h4⟩
   | int _ => cases hb
   | byte => cases hb
   | bool => cases hb
   | str => cases hb
   | slice _ => cases hb
   | one _ => cases hb
   | ptr _ => cases hb
   | nilS => cases hb
   | fnc _ => cases hb
theorem each_ty {u : Ty} {D : u.den → Prop} : ∀ {es : List (List AV)}, (∀ c ∈ es, ∃ x : u.den, c = u.cells x ∧ D x) → ∃ l : List u.den, es = l.map u.cells ∧ ∀ x ∈ l, D x
 | [], _ => ⟨[], rfl, fun x h => by cases h⟩
 | c :: es, h => by
  obtain ⟨a, rfl, ha⟩ := h c (List.mem_cons_self ..)
  obtain ⟨l, rfl, hl⟩ := each_ty (D := D) (fun c hc => h c (List.mem_cons_of_mem _ hc))
  refine ⟨a :: l, rfl, fun x hx => ?_⟩
  rcases List.mem_cons.1 hx with rfl | hx
  ·exact ha
  ·exact hl x hx
theorem shape_ty {T : Tab} : ∀ (m t : Nat) (ty : Ty) (xs : List AV), tyB T m t ty = true → ShapeC T m t xs → ∃ x : ty.den, xs = ty.cells x ∧ InD T m t ty x
 | 0, _, _, _, h, _ => by cases h
 | m + 1, t, ty, xs, h, hs => by
  have ih := shape_ty (T := T) m
  unfold ShapeC at hs
  cases ty with
  | int k =>
   simp only [tyB] at h
   split at h
   ·rename_i ht
    rw [ht] at hs
    obtain ⟨n, rfl, hn⟩ := hs
    rw [of_decide_eq_true h] at hn ⊢
    exact ⟨n, rfl, hn⟩
   ·cases h
  | byte =>
   simp only [tyB] at h
   split at h
   ·rename_i ht
    rw [ht] at hs
    obtain ⟨n, rfl, hn⟩ := hs
    rw [of_decide_eq_true h] at hn ⊢
    have hn2 : 0 ≤ n ∧ n < 256 := by
     have h3 : decide (IntKind.u8.min ≤ n) && decide (n ≤ IntKind.u8.max) := hn
     rw [Bool.and_eq_true, decide_eq_true_eq, decide_eq_true_eq] at h3
     have e1 : IntKind.u8.min = 0 := rfl
     have e2 : IntKind.u8.max = 255 := rfl
     omega
    refine ⟨UInt8.ofNat n.toNat, ?_, trivial⟩
    have : ((UInt8.toNat (UInt8.ofNat n.toNat) : Nat) : Int) = n := by
     rw [UInt8.toNat_ofNat']
     omega
    simp only [Ty.cells]
    rw [this]
   ·cases h
  | bool =>
   simp only [tyB] at h
   split at h
   ·rename_i ht
    rw [ht] at hs
    obtain ⟨n, rfl⟩ := hs
    exact ⟨n, rfl, trivial⟩
   ·cases h
  | str =>
   simp only [tyB] at h
   split at h
   ·rename_i ht
    rw [ht] at hs
    obtain ⟨n, rfl, hn⟩ := hs
    exact ⟨n, rfl, hn⟩
   ·cases h
  | slice u =>
   simp only [tyB] at h
   split at h
   ·rename_i e _ _ _ ht
    simp only [ht] at hs
    split at h
    ·rename_i i hi
     simp only [hi] at hs
     obtain ⟨es, rfl, h1, h2⟩ := hs
     rw [Bool.and_eq_true, decide_eq_true_eq] at h
     obtain ⟨l, rfl, hl⟩ := each_ty (u := u) (fun c hc => ih e u c h.2 (h2 c hc))
     refine ⟨l, by rw [h.1]; rfl, ?_⟩
     simp only [InD, ht, hi]
     exact ⟨by simpa using h1, hl⟩
    ·cases h
   ·cases h
  | one u =>
   simp only [tyB] at h
   split at h
   ·rename_i ht
    simp only [ht] at hs
    obtain ⟨x, h1, h2⟩ := shapeL_ty ih _ u xs h hs
    exact ⟨x, h1, by simp only [InD, ht]; exact h2⟩
   ·cases h
  | pair a b =>
   simp only [tyB] at h
   split at h
   ·rename_i ht
    simp only [ht] at hs
    obtain ⟨x, h1, h2⟩ := shapeL_ty ih _ (.pair a b) xs h hs
    exact ⟨x, h1, by simp only [InD, ht]; exact h2⟩
   ·cases h
  | ptr _ => cases h
  | nilS => cases h
  | fnc _ => cases h
theorem shapeV_ty {T : Tab} {m t : Nat} {ty : Ty} {x : AV} (h : tyB T m t ty = true) (hs : ShapeV T m t x) : ∃ y : ty.den, x = ty.av y ∧ InD T m t ty y := by
 unfold ShapeV at hs
 cases m with
 | zero => cases h
 | succ m =>
  cases hagg : ty.isAgg with
  | true =>
   have : ∃ fs a b c, T t = some ⟨.struct fs, a, b, c⟩ := by
    cases ty with
    | one u => simp only [tyB] at h; split at h; (· rename_i ht; exact ⟨_, _, _, _, ht⟩); (· cases h)
    | pair u v => simp only [tyB] at h; split at h; (· rename_i ht; exact ⟨_, _, _, _, ht⟩); (· cases h)
    | int _ => cases hagg
    | byte => cases hagg
    | bool => cases hagg
    | str => cases hagg
    | slice _ => cases hagg
    | ptr _ => cases hagg
    | nilS => cases hagg
    | fnc _ => cases hagg
   obtain ⟨fs, a, b, c, ht⟩ := this
   simp only [ht] at hs
   obtain ⟨xs, rfl, hx⟩ := hs
   obtain ⟨y, h1, h2⟩ := shape_ty _ t ty xs h hx
   exact ⟨y, by rw [Ty.av_agg hagg, h1], h2⟩
  | false =>
   have hns : ∀ fs a b c, T t ≠ some ⟨.struct fs, a, b, c⟩ := by
    intro fs a b c ht
    cases ty with
    | one u => cases hagg
    | pair u v => cases hagg
    | ptr _ => cases h
    | nilS => cases h
    | fnc _ => cases h
    | int _ => simp [tyB, ht] at h
    | byte => simp [tyB, ht] at h
    | bool => simp [tyB, ht] at h
    | str => simp [tyB, ht] at h
    | slice _ => simp [tyB, ht] at h
   split at hs
   ·rename_i ht; exact absurd ht (hns _ _ _ _)
   ·obtain ⟨y, h1, h2⟩ := shape_ty _ t ty _ h hs
    rw [Ty.cells_leaf hagg] at h1
    exact ⟨y, by simpa using h1, h2⟩
def tyAB (T : Tab) (m : Nat) : List Nat → List Ty → Bool
 | [], [] => true
 | t :: ts, u :: us => tyB T m t u && tyAB T m ts us
 | _, _ => false
def InA (T : Tab) (m : Nat) : List Nat → (us : List Ty) → denL us → Prop
 | [t], [u], x => InD T m t u x
 | t :: ts, u :: v :: us, x => InD T m t u x.1 ∧ InA T m ts (v :: us) x.2
 | _, _, _ => True
theorem shapeA_ty {T : Tab} {m : Nat} : ∀ (ts : List Nat) (us : List Ty) (xs : List AV), tyAB T m ts us = true → ShapeA T m ts xs → ∃ x : denL us, xs = avL us x ∧ InA T m ts us x := by
 intro ts
 induction ts with
 | nil =>
  intro us xs h hs
  cases us with
  | nil => exact ⟨(), hs, trivial⟩
  | cons u us => cases h
 | cons t ts ih =>
  intro us xs h hs
  obtain ⟨x, r, rfl, h1, h2⟩ := hs
  cases us with
  | nil => cases h
  | cons u us =>
   simp only [tyAB, Bool.and_eq_true] at h
   obtain ⟨y, rfl, hy⟩ := shapeV_ty h.1 h1
   obtain ⟨z, hz, hz2⟩ := ih us r h.2 h2
   cases us with
   | nil =>
    cases ts with
    | nil => exact ⟨y, by rw [hz]; rfl, hy⟩
    | cons _ _ => cases h.2
   | cons v us =>
    refine ⟨(y, z), by rw [hz]; rfl, ?_⟩
    cases ts with
    | nil => cases h.2
    | cons _ _ => exact ⟨hy, hz2⟩
theorem law_typed {P : Program} {T : Tab} {f m : Nat} {ts : List Nat} {us : List Ty} {run : denL us → Option Bool} (ok : FnOK P f ⟨us, [.bool], run⟩) (hty : tyAB T m ts us = true) (law : ∀ x, InA T m ts us x → run x = some true) (xs : List AV) (h : ShapeA T m ts xs) : FPure P f xs (.v (.bool true)) := by
 obtain ⟨x, rfl, hx⟩ := shapeA_ty ts us xs hty h
 exact ok.2 x true (law x hx)
end Go.Proofs.YtpeiomhgaembaaaDoor.Eng
set_option linter.unusedVariables false
set_option linter.unusedSimpArgs false
namespace Go.Proofs.YtpeiomhgaembaaaDoor.Eng
open Go Go.RowKit
theorem FPure.of_calls {P : Program} {f : Nat} {args : List Value} {r : Value} (h : ∀ w : World, Calls P f args.toArray w fun e w' => e = .returned r ∧ Below w.heap.size w w') : FPure P f (args.map AV.v) (.v r) := by
 intro σ F w vs hr hl hv
 have hvs : vs = args := by
  apply List.ext_getElem?
  intro j
  by_cases hj : j < args.length
  ·have hj2 : j < vs.length := by rw [← hl, List.length_map]; exact hj
   rw [List.getElem?_eq_getElem hj2, List.getElem?_eq_getElem hj]
   exact congrArg some (RepV.val (hv j (.v args[j]) vs[j] (by rw [List.getElem?_map, List.getElem?_eq_getElem hj]; rfl) (List.getElem?_eq_getElem hj2)))
  ·have hj2 : ¬ j < vs.length := by rw [← hl, List.length_map]; exact hj
   rw [List.getElem?_eq_none (by omega), List.getElem?_eq_none (by omega)]
 subst hvs
 have hno : ∀ id g, ¬ hasB σ id g := fun id g h => by
  obtain ⟨k, h, _⟩ := h
  rw [hr.out id (Nat.zero_le _)] at h; cases h
 refine (h w).mono ?_
 rintro e w' ⟨rfl, hb⟩
 refine ⟨.v r, [], σ, F, r, ⟨rfl, rfl⟩, rfl, .f _ _ (.v _), ⟨fun id o ho => by simp at ho, hr.out, hr.inj, fun id g h => absurd h (hno id g), fun b hb' => Nat.lt_of_lt_of_le (hr.flt b hb') hb.size⟩, ⟨hb.os, hb.tape, hb.output, hb.size, fun b hb' _ => hb.block b hb'⟩, fun id g h => absurd h (hno id g), fun b h => .inl h, fun id h => absurd h (Nat.not_lt_zero _), Nat.le_refl _⟩
end Go.Proofs.YtpeiomhgaembaaaDoor.Eng
