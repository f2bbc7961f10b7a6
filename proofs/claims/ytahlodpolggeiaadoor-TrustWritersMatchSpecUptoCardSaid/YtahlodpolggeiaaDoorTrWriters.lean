/-
  The law TrustWritersMatchSpec hands back true for every argument of small bulk, and leaves its arguments as they were. No condition beyond the statement's.
-/
import Derived.Test.YtahlodpolggeiaaDoorTrPlain
import Derived.Test.YtahlodpolggeiaaDoorTrUp
import Derived.Test.YtahlodpolggeiaaDoorRows
import Derived.Test.YtahlodpolggeiaaDoorCards
import Derived.Test.YtahlodpolggeiaaDoorTie
import Derived.ProofKit
import Derived.LaidMore
import Derived.Lay
import Derived.OpenShut
import Derived.SevenTiedAt
import Derived.Stop.Joined
import Derived.JoinedCond
import Derived.Deep.DeepHandedRow
import Derived.Test.YtahlodpolggeiaaDoorTrFacts
set_option linter.unusedVariables false
set_option linter.unusedSimpArgs false
namespace Go.Proofs.YtahlodpolggeiaaDoor
open Go Go.RowKit Go.Proofs.YtahlodpolggeiaaDoor.Eng
variable {H : Type} {P : Program}
mutual
theorem bulk_pos : ∀ d : DataW H, 1 ≤ Rows.uptoBulk d
 | .lit l => by cases l <;> simp [Rows.uptoBulk]
 | .nil => by simp [Rows.uptoBulk]
 | .ptr d => by simp [Rows.uptoBulk]
 | .slice a b => by simp [Rows.uptoBulk]
 | .agg a => by simp [Rows.uptoBulk]
 | .iface t d => by simp [Rows.uptoBulk]
 | .map e => by simp [Rows.uptoBulk]
 | .held h => by simp [Rows.uptoBulk]
end
theorem bulk_len : ∀ l : List (DataW H), l.length ≤ Rows.uptoBulkAll l
 | [] => Nat.le_refl _
 | d :: r => by
  have h1 := bulk_pos d
  have h2 := bulk_len r
  simp only [List.length_cons, Rows.uptoBulkAll]; omega
theorem bulkE_pos : ∀ x : Lit × DataW H, 1 ≤ Rows.uptoBulkEntry x
 | (l, d) => by have := bulk_pos d; cases l <;> simp only [Rows.uptoBulkEntry] <;> omega
theorem bulkE_len : ∀ l : List (Lit × DataW H), l.length ≤ Rows.uptoBulkEntries l
 | [] => Nat.le_refl _
 | d :: r => by
  have h1 := bulkE_pos d
  have h2 := bulkE_len r
  simp only [List.length_cons, Rows.uptoBulkEntries]; omega
variable {N M n : Nat}
def closB (P : Program) (n t : Nat) : Bool := match P.underlying t with
 | some (.pointer e) => decide (e < n)
 | some (.slice e) => decide (e < n)
 | some (.struct fs) => (fs.toList.map (·.type)).all fun e => decide (e < n)
 | some (.array _ e) => decide (e < n)
 | some (.map k e) => decide (k < n) && decide (e < n)
 | _ => true
mutual
theorem w_d (hM : ∀ e, e < n → 2 * P.bytesOf e ≤ M) (hC : ∀ t, t < n → closB P n t = true) (h1 : 1 ≤ M) : ∀ (d : DataW H) (t : TypeId), t < n → Rows.uptoBulk d ≤ N → ∀ x ∈ d.weights P t, x ≤ N * M
 | .lit l, t, ht, h, x, hx => by
  cases l with
  | string b =>
   simp only [DataW.weights, List.mem_singleton] at hx
   simp only [Rows.uptoBulk] at h
   have := Nat.le_mul_of_pos_right N h1
   omega
  | _ => simp [DataW.weights] at hx
 | .nil, t, ht, h, x, hx => by simp [DataW.weights] at hx
 | .ptr d, t, ht, h, x, hx => by
  simp only [Rows.uptoBulk] at h
  simp only [DataW.weights] at hx
  have hc := hC t ht
  unfold closB at hc
  split at hx
  ·rename_i e he
   rw [he] at hc
   exact w_d hM hC h1 d e (of_decide_eq_true hc) (by omega) x hx
  ·cases hx
 | .slice a b, t, ht, h, x, hx => by
  simp only [Rows.uptoBulk] at h
  simp only [DataW.weights] at hx
  have hc := hC t ht
  unfold closB at hc
  split at hx
  ·rename_i e he
   rw [he] at hc
   have hc' : e < n := of_decide_eq_true hc
   rcases List.mem_cons.1 hx with hx | hx
   ·have h2 := bulk_len a
    have h3 := bulk_len b
    rw [hx]
    exact Nat.mul_le_mul (by omega) (by have := hM e hc'; omega)
   ·rcases List.mem_append.1 hx with hx | hx
    ·exact w_all hM hC h1 a e hc' (by omega) x hx
    ·exact w_all hM hC h1 b e hc' (by omega) x hx
  ·cases hx
 | .agg a, t, ht, h, x, hx => by
  simp only [Rows.uptoBulk] at h
  simp only [DataW.weights] at hx
  have hc := hC t ht
  unfold closB at hc
  split at hx
  ·rename_i fs he
   rw [he] at hc
   exact w_each hM hC h1 a _ (fun e he => of_decide_eq_true (List.all_eq_true.1 hc e he)) (by omega) x hx
  ·rename_i k e he
   rw [he] at hc
   exact w_all hM hC h1 a e (of_decide_eq_true hc) (by omega) x hx
  ·cases hx
 | .iface t' d, t, ht, h, x, hx => by simp [DataW.weights] at hx
 | .map e, t, ht, h, x, hx => by
  simp only [Rows.uptoBulk] at h
  simp only [DataW.weights] at hx
  have hc := hC t ht
  unfold closB at hc
  split at hx
  ·rename_i k v he
   rw [he] at hc
   simp only [Bool.and_eq_true, decide_eq_true_eq] at hc
   rcases List.mem_cons.1 hx with hx | hx
   ·have h2 := bulkE_len e
    have h3 := hM k hc.1
    have h4 := hM v hc.2
    rw [hx]
    exact Nat.mul_le_mul (by omega) (by omega)
   ·exact w_entries hM hC h1 e v hc.2 (by omega) x hx
  ·cases hx
 | .held _, t, ht, h, x, hx => by simp [DataW.weights] at hx
theorem w_all (hM : ∀ e, e < n → 2 * P.bytesOf e ≤ M) (hC : ∀ t, t < n → closB P n t = true) (h1 : 1 ≤ M) : ∀ (l : List (DataW H)) (t : TypeId), t < n → Rows.uptoBulkAll l ≤ N → ∀ x ∈ DataW.weightsAll P t l, x ≤ N * M
 | [], t, ht, h, x, hx => by simp [DataW.weightsAll] at hx
 | d :: r, t, ht, h, x, hx => by
  simp only [Rows.uptoBulkAll] at h
  simp only [DataW.weightsAll] at hx
  rcases List.mem_append.1 hx with hx | hx
  ·exact w_d hM hC h1 d t ht (by omega) x hx
  ·exact w_all hM hC h1 r t ht (by omega) x hx
theorem w_entries (hM : ∀ e, e < n → 2 * P.bytesOf e ≤ M) (hC : ∀ t, t < n → closB P n t = true) (h1 : 1 ≤ M) : ∀ (l : List (Lit × DataW H)) (t : TypeId), t < n → Rows.uptoBulkEntries l ≤ N → ∀ x ∈ DataW.weightsEntries P t l, x ≤ N * M
 | [], t, ht, h, x, hx => by simp [DataW.weightsEntries] at hx
 | (l, d) :: r, t, ht, h, x, hx => by
  simp only [Rows.uptoBulkEntries] at h
  simp only [DataW.weightsEntries] at hx
  rcases List.mem_append.1 hx with hx | hx
  ·have hd : Rows.uptoBulk d ≤ N := by cases l <;> simp only [Rows.uptoBulkEntry] at h <;> omega
   cases l with
   | string b =>
    simp only [DataW.weightsEntry] at hx
    rcases List.mem_cons.1 hx with hx | hx
    ·simp only [Rows.uptoBulkEntry] at h
     have := Nat.le_mul_of_pos_right N h1
     omega
    ·exact w_d hM hC h1 d t ht hd x hx
   | _ => exact w_d hM hC h1 d t ht hd x (by simpa only [DataW.weightsEntry] using hx)
  ·exact w_entries hM hC h1 r t ht (by omega) x hx
theorem w_each (hM : ∀ e, e < n → 2 * P.bytesOf e ≤ M) (hC : ∀ t, t < n → closB P n t = true) (h1 : 1 ≤ M) : ∀ (l : List (DataW H)) (ts : List TypeId), (∀ t ∈ ts, t < n) → Rows.uptoBulkAll l ≤ N → ∀ x ∈ DataW.weightsEach P ts l, x ≤ N * M
 | [], ts, ht, h, x, hx => by cases ts <;> simp [DataW.weightsEach] at hx
 | d :: r, [], ht, h, x, hx => by simp [DataW.weightsEach] at hx
 | d :: r, t :: ts, ht, h, x, hx => by
  simp only [Rows.uptoBulkAll] at h
  simp only [DataW.weightsEach] at hx
  rcases List.mem_append.1 hx with hx | hx
  ·exact w_d hM hC h1 d t (ht t (List.mem_cons_self ..)) (by omega) x hx
  ·exact w_each hM hC h1 r ts (fun e he => ht e (List.mem_cons_of_mem _ he)) (by omega) x hx
end
end Go.Proofs.YtahlodpolggeiaaDoor
set_option linter.unusedVariables false
set_option linter.unusedSimpArgs false
set_option maxRecDepth 100000
set_option maxHeartbeats 4000000
namespace Go.Proofs.YtahlodpolggeiaaDoor
open Go Go.RowKit Go.ChangeShapes Go.WideShapes Go.ChangeAt Go.Proofs.YtahlodpolggeiaaDoor.Eng
theorem bytes_le (e : TypeId) (he : e < Tryd.prog.types.size) : 2 * Tryd.prog.bytesOf e ≤ 4096 := by
 have hall : ((List.range Tryd.prog.types.size).all fun e => decide (2 * Tryd.prog.bytesOf e ≤ 4096)) = true := by kernel_rfl
 exact of_decide_eq_true (List.all_eq_true.1 hall e (List.mem_range.2 he))
theorem clos_all (t : TypeId) (ht : t < Tryd.prog.types.size) : closB Tryd.prog Tryd.prog.types.size t = true := by
 have hall : ((List.range Tryd.prog.types.size).all fun t => closB Tryd.prog Tryd.prog.types.size t) = true := by kernel_rfl
 exact List.all_eq_true.1 hall t (List.mem_range.2 ht)
theorem law_TW' (x : List Wr × (ByteArray × (ByteArray × Int))) (hx : Up.InA T 6 [22,9,9,3] [.slice (.pair .str (.pair .str (.pair (.slice .str) (.pair (.int .i64) (.int .i64))))), .str, .str, .int .i64] x) : law11_TrustWritersMatchSpec.f x.1 x.2.1 x.2.2.1 x.2.2.2 = some true := by
 have hu : Up.upBytes = 4294967296 := rfl
 have h1 : List.length x.1 * 72 ≤ Up.upBytes := hx.1.1
 have h2 : ∀ w ∈ x.1, szW w ∧ w.2.2.1.length ≤ 100000000000 := fun w hw => by
  have h := hx.1.2 w hw
  have g1 : w.1.size ≤ Up.upBytes := h.1
  have g2 : w.2.1.size ≤ Up.upBytes := h.2.1
  have g3 : List.length w.2.2.1 * 16 ≤ Up.upBytes := h.2.2.1.1
  refine ⟨⟨by omega, by omega, fun y hy => ?_⟩, by omega⟩
  have g4 : y.size ≤ Up.upBytes := h.2.2.1.2 y hy
  omega
 have h3 : x.2.2.1.size ≤ Up.upBytes := hx.2.2.1
 exact law_TW (fun w hw => (h2 w hw).1) (by omega) (fun w hw => (h2 w hw).2) x.2.1 (by omega) x.2.2.2
end Go.Proofs.YtahlodpolggeiaaDoor
set_option linter.unusedVariables false
set_option linter.unusedSimpArgs false
set_option maxRecDepth 100000
set_option maxHeartbeats 4000000
namespace Go.Proofs.YtahlodpolggeiaaDoor
open Go Go.RowKit Go.ChangeShapes Go.WideShapes Go.ChangeAt Go.Proofs.YtahlodpolggeiaaDoor.Eng
theorem own : ownKnob Tryd.prog.godebug = none := by kernel_rfl
theorem laidOut : laidOutB Tryd.prog = true := by kernel_rfl
abbrev upSpec : OpenSpec := Rows.OpenSpec.upto Rows.trustWritersMatchSpecSpec
abbrev upRow : OpenClaim := Rows.trustWritersMatchSpecUptoRow
theorem tw_av (xs : List AV) (h : Up.ShapeA T 6 [22,9,9,3] xs) : FPure Tryd.prog 3 xs (.v (.bool true)) :=
 Up.law_typed (T := T) (m := 6) (ts := [22,9,9,3]) law11_TrustWritersMatchSpec.ok (by kernel_rfl) (fun x hx => law_TW' x hx) xs h
theorem tw_lifted (os : Os) (started : os.Started) (H : Type) (enc : TypeId × Value → H) (F : Stop.Interp) :
  ReturnsInHanded {} Tryd.checked os 3 .any (upSpec.preRow enc Tryd.prog Tryd.f3 upRow.domain false upRow.laid) ((upSpec.at F).post enc Tryd.prog Tryd.f3 false true false false) := by
 have hwit : (match DataW.whole enc Tryd.prog ((World.laidAll Tryd.prog os upRow.laid).forCall (fun _ _ => 0) ⟨#[], #[.slice none 0 0, .string ByteArray.empty, .string ByteArray.empty, .int .i64 0], []⟩).memory Tryd.f3.params.toList upSpec.vars false [.slice none 0 0, .string ByteArray.empty, .string ByteArray.empty, .int .i64 0] 8 with
   | some x => upRow.domain.all (PathCond.test Tryd.prog ⟨Tryd.f3.params.toList, x.1, upSpec.bare.plain.varTypes Tryd.prog, x.2.1⟩) && Rows.uptoSmall H (x.1 ++ x.2.1)
   | none => false) = true := by kernel_rfl
 refine returnsInHanded_of_row (C := Tryd.checked) (s := upSpec) own started (by kernel_rfl) Tryd.func3 ?_ ?_
 ·split at hwit
  ·rename_i x hx
   rw [Bool.and_eq_true] at hwit
   exact witness_row_at (enc := enc) (C := Tryd.checked) false (World.laidAll Tryd.prog os upRow.laid) #[.slice none 0 0, .string ByteArray.empty, .string ByteArray.empty, .int .i64 0] (World.laidAll_os _ _ _) (by kernel_rfl) (by kernel_rfl) (by kernel_rfl)
    ⟨⟨(OpenSpec.pre_some (k := Rows.uptoSmall) rfl _ _ _ _).2 ⟨x.1, x.2.1, x.2.2, DataW.Whole_of_whole hx, hwit.1, hwit.2⟩, by rw [MakeChecks.laidMetH_plain _ _ _ (by kernel_rfl)]; exact laidMet_laidAll _ (by kernel_rfl) (by kernel_rfl)⟩, sizedMet_of_sizedB (fuel := 8) (by kernel_rfl)⟩
  ·cases hwit
 ·intro W base args ds gs before hval0 hW hcnd hcond hsz0 hL hsh _
  have hW' := hW
  obtain ⟨p, q, hA0, hV, rfl, hfz, hnd⟩ := hW
  have hA : DataW.TrodAll enc Tryd.prog W 0 (fun _ => true) true [22,9,9,3] args.toList ds p := hA0
  obtain ⟨rfl, rfl⟩ := trodVars_none hV
  have hbulk : Rows.uptoBulkAll (ds ++ []) ≤ 1048576 := of_decide_eq_true (hcond Rows.uptoSmall rfl)
  rw [List.append_nil] at hbulk
  have hsz : (DataW.weightsEach Tryd.prog [22,9,9,3] ds).all (· ≤ Up.upBytes) = true := by
   rw [List.all_eq_true]
   intro w hw
   have := w_each (N := 1048576) (M := 4096) (n := Tryd.prog.types.size) bytes_le clos_all (by decide) ds [22,9,9,3] (by
    have : ([22,9,9,3].all fun t => decide (t < Tryd.prog.types.size)) = true := by kernel_rfl
    exact fun t ht => of_decide_eq_true (List.all_eq_true.1 this t ht)) hbulk w hw
   exact decide_eq_true this
  have hlaw := Up.law_calls (r := .any) (b0 := base) tabOK laidOut tw_av (by decide +kernel) (by kernel_rfl) hA (fun j t v h1 h2 => hval0 j t v (by simpa using h1) (by simpa using h2)) hsz
  simp only [Array.toArray_toList] at hlaw
  refine hlaw.mono fun e W' ⟨he, bel, hback⟩ => ?_
  subst he
  obtain ⟨d1, d2, d3, d4, hds⟩ : ∃ d1 d2 d3 d4, ds = [d1, d2, d3, d4] := by
   obtain ⟨_, _, d1, _, _, _, _, rfl, _, _, h⟩ := trodAll_cons hA
   obtain ⟨_, _, d2, _, _, _, _, rfl, _, _, h⟩ := trodAll_cons h
   obtain ⟨_, _, d3, _, _, _, _, rfl, _, _, h⟩ := trodAll_cons h
   obtain ⟨_, _, d4, _, _, _, _, rfl, _, _, h⟩ := trodAll_cons h
   obtain ⟨_, rfl, _⟩ := trodAll_nil h
   exact ⟨d1, d2, d3, d4, rfl⟩
  subst hds
  exact ⟨_, rfl, _, _, _, [], _, [], hW', trodAll_mk1 (shut_bool Tryd.underlying4 _), hback, rfl, bel.frame _, fun h => by cases h⟩
end Go.Proofs.YtahlodpolggeiaaDoor
set_option linter.unusedVariables false
set_option linter.unusedSimpArgs false
set_option maxRecDepth 100000
set_option maxHeartbeats 4000000
namespace Go.Proofs.YtahlodpolggeiaaDoor
open Go Go.RowKit Go.ChangeShapes Go.WideShapes Go.ChangeAt Go.Proofs.YtahlodpolggeiaaDoor.Eng
theorem tw_facts : joinedFacts Tryd.prog 3 Tryd.f3 upSpec.bare upRow = true := by
 unfold joinedFacts
 rw [laidOut, e_make, e_lifted, e_may]
 kernel_rfl
theorem tw_over : upRow.holds Tryd.pinned upSpec :=
 OpenClaim.holds_of_cond 3 Tryd.f3 rfl rfl rfl rfl rfl rfl rfl ⟨rfl, rfl, rfl, rfl, rfl⟩ rfl rfl rfl rfl rfl (by kernel_rfl) Tryd.func3 tw_facts
  (of_decide_eq_true (by kernel_rfl)) (by unfold Func.isWrapper; first | (rw [if_pos (by decide +kernel)]; kernel_rfl) | (rw [if_neg (by decide +kernel)]; exact ⟨rfl, rfl⟩))
  (fun os started H enc _ F => by
   rw [OpenClaim.pre_eq_preRow]
   exact tw_lifted os started H enc F)
theorem tw_wf : upRow.wfByText upSpec = true := by kernel_rfl
theorem tw_main : Tryd.pinned.checked.prog.mainIs = some (true, "6136380b7ba6d4922a8d3685df87326f57c2e568d7b70079681a7bb5b43e332a".toList) := by kernel_rfl
theorem tw_looks : false = Tryd.pinned.checked.prog.looks [] := by kernel_rfl
theorem tw_goes : false = upRow.goesBy Tryd.pinned.checked.prog := by kernel_rfl
theorem tw_named : Tryd.prog.funcNamed "smithyard/smithyardlaw11.TrustWritersMatchSpec" = some 3 := by kernel_rfl
theorem tw_noStand : ([22,9,9,3].all fun u => !Tryd.prog.wantsStandIn u) = true := by kernel_rfl
theorem trustWritersMatchSpecUpto_holds : Rows.TrustWritersMatchSpecUptoCardSaid :=
 Claim7.holds_tied_plain_at .later [] [.data, .pinned] true (true, "6136380b7ba6d4922a8d3685df87326f57c2e568d7b70079681a7bb5b43e332a") false tw_over (fun _ h => by cases h) tw_wf (fun _ h => by cases h) trustWritersMatchSpecUpto_row_tie rfl ⟨rfl, rfl⟩ tw_main rfl
  (fun f fn hf hfn => by
   obtain rfl : f = 3 := Option.some.inj (tw_named.symm.trans hf) |>.symm
   obtain rfl : fn = Tryd.f3 := (Option.some.inj (Tryd.func3.symm.trans hfn)).symm
   exact ⟨tw_looks, fun j t ht => by
    rw [Tryd.params3] at ht
    have hm : t ∈ [22,9,9,3] := by simpa using Array.mem_of_getElem? ht
    exact (show Tryd.prog.wantsStandIn t = false by simpa using List.all_eq_true.1 tw_noStand t hm)⟩)
  tw_goes
end Go.Proofs.YtahlodpolggeiaaDoor
