/-
  The law WireMessagesMatchSpec hands back true for every argument, and leaves its arguments as they were; its card is tied to the program. No condition.
-/
import Derived.Test.YtpeiomhgaembaaaDoorFun
import Derived.Test.YtpeiomhgaembaaaDoorTypB
import Derived.Test.YtpeiomhgaembaaaDoorRows
import Derived.Test.YtpeiomhgaembaaaDoorCards
import Derived.Test.YtpeiomhgaembaaaDoorTie
import Derived.ProofKit
import Derived.LaidMore
import Derived.Lay
import Derived.OpenShut
import Derived.SevenTiedAt
import Derived.Stop.Joined
set_option linter.unusedVariables false
set_option linter.unusedSimpArgs false
namespace Go.Proofs.YtpeiomhgaembaaaDoor
open Go Go.Proofs.YtpeiomhgaembaaaDoor.Eng
theorem ck_dec {β : Type} {c : Prop} [h : Decidable c] {a : Option β} : ck c a = if c then a else none := by
 by_cases hc : c
 ·rw [ck_pos hc, if_pos hc]
 ·rw [if_neg hc]; unfold ck; rw [if_neg hc]
instance inR_dec (x : Int) : Decidable (InR x) := by unfold InR; infer_instance
theorem within_eq (a b c : Int) : wire_within.f a b c = some (decide (b ≤ a ∧ a ≤ c)) := by
 unfold wire_within.f
 rw [cb_dec]
 by_cases h : b ≤ a <;> simp [h]
theorem within8_eq (a b c : Int) : ref8_within.f a b c = some (decide (b ≤ a ∧ a ≤ c)) := by
 unfold ref8_within.f
 rw [cb_dec]
 by_cases h : b ≤ a <;> simp [h]
theorem starts_awake : wire_Starts.f ((2 : Int), (10 : Int)) [((0 : Int), (8 : Int)), ((0 : Int), (8 : Int))] = some ([0, 3], 0) := by
 have q : wire_CheckQuota.f ((2 : Int), (10 : Int)) = some 0 := by
  simp only [wire_CheckQuota.f, within_eq, ob_s]; rfl
 have l0 : wire_Starts.l0 [((0 : Int), (8 : Int)), ((0 : Int), (8 : Int))] ((2 : Int), (10 : Int)) [((0 : Int), (8 : Int)), ((0 : Int), (8 : Int))] 2 0 = some (.inr ()) := by
  refine (loopX_next (x' := 1) ?_).trans ((loopX_next (x' := 2) ?_).trans (loopX_done ?_))
  ·simp only [wire_Starts.s0, ck_dec, within_eq, ob_s]; rfl
  ·simp only [wire_Starts.s0, ck_dec, within_eq, ob_s]; rfl
  ·simp only [wire_Starts.s0, ck_dec, within_eq, ob_s]; rfl
 have l1 : wire_Starts.l1 ((2 : Int), (10 : Int)) [((0 : Int), (8 : Int)), ((0 : Int), (8 : Int))] 2 0 10 0 [] = some (3, [0, 3]) := by
  refine (loopX_next (x' := (0, 2, 1, [0])) ?_).trans ((loopX_next (x' := (3, 0, 2, [0, 3])) ?_).trans (loopX_done ?_))
  ·simp only [wire_Starts.s1, ck_dec]; rfl
  ·simp only [wire_Starts.s1, ck_dec]; rfl
  ·simp only [wire_Starts.s1, ck_dec]; rfl
 unfold wire_Starts.f
 rw [q, ob_s]
 show ob (wire_Starts.l0 [((0 : Int), (8 : Int)), ((0 : Int), (8 : Int))] ((2 : Int), (10 : Int)) [((0 : Int), (8 : Int)), ((0 : Int), (8 : Int))] 2 0) _ = _
 rw [l0, ob_s, caseS_r]
 show ob (wire_Starts.l1 ((2 : Int), (10 : Int)) [((0 : Int), (8 : Int)), ((0 : Int), (8 : Int))] 2 0 10 0 []) _ = _
 rw [l1, ob_s]
 rfl
theorem awake_eq : law8_awake.f = some true := by
 unfold law8_awake.f
 rw [starts_awake, ob_s]
 simp only [ck_dec]
 rfl
theorem cloneB {l : List UInt8} (h : l.length ≤ 140737488355328) : slices_Clone_byte_byte.f l = some l := by
 unfold slices_Clone_byte_byte.f
 by_cases he : l = []
 ·subst he
  rw [ck_pos (by simp)]
  exact nq_same
 ·unfold nq
  rw [if_pos he, ck_pos (by simp; omega)]
  rfl
theorem equalB2 (a b : List UInt8) (ha : a.length ≤ 1000000000000000) : slices_Equal_byte_byte.f a b = some (decide (a = b)) := by
 have go : ∀ (n k : Nat), a.length = b.length → a.length - k = n → k ≤ a.length → slices_Equal_byte_byte.l0 a b (a.length : Int) (k : Int) = some (if a.drop k = b.drop k then .inr () else .inl false) := by
  intro n
  induction n with
  | zero =>
   intro k hab hn hk
   obtain rfl : k = a.length := by omega
   refine loopX_done ?_
   simp only [slices_Equal_byte_byte.s0, cb_dec]
   rw [if_neg (by omega), List.drop_length, hab, List.drop_length, if_pos rfl]
  | succ n ih =>
   intro k hab hn hk
   have hlt : k < a.length := by omega
   have hlt2 : k < b.length := by omega
   have ihk := ih (k + 1) hab (by omega) (by omega)
   rw [List.drop_eq_getElem_cons hlt, List.drop_eq_getElem_cons hlt2]
   by_cases he : a[k] = b[k]
   ·refine (loopX_next (x' := ((k + 1 : Nat) : Int)) ?_).trans (ihk.trans ?_)
    ·simp only [slices_Equal_byte_byte.s0, cb_dec, cb_not, rd_lt hlt, rd_lt hlt2]
     rw [if_pos (by omega), ck_pos (by omega), ck_pos (by omega), if_pos (by rw [he]), ck_in (by omega) (by omega)]
     rfl
    ·congr 1; simp only [List.cons.injEq, he, true_and]
   ·refine loopX_done ?_
    simp only [slices_Equal_byte_byte.s0, cb_dec, cb_not, rd_lt hlt, rd_lt hlt2]
    have hne : ¬ (((UInt8.toNat a[k] : Nat) : Int) = ((UInt8.toNat b[k] : Nat) : Int)) := fun h => he (UInt8.toNat_inj.1 (by omega))
    rw [if_pos (by omega), ck_pos (by omega), ck_pos (by omega), if_neg hne, if_neg (fun h => he (List.cons.inj h).1)]
 unfold slices_Equal_byte_byte.f
 simp only [cb_not, cb_dec]
 by_cases hl : a.length = b.length
 ·rw [if_pos (by omega), show (0 : Int) = ((0 : Nat) : Int) from rfl, go a.length 0 hl (by omega) (by omega), ob_s]
  simp only [List.drop_zero]
  by_cases h : a = b
  ·rw [if_pos h, caseS_r]; simp [h]
  ·rw [if_neg h, caseS_l]; simp [h]
 ·rw [if_neg (by omega)]
  have : a ≠ b := fun h => hl (by rw [h])
  simp [this]
theorem equalB {l : List UInt8} (h : l.length ≤ 1000000000000000) : slices_Equal_byte_byte.f l l = some true := by rw [equalB2 l l h]; simp
theorem isDigest_eq (s : ByteArray) : ∃ b : Bool, blob_IsDigest.f s = some b := by
 unfold blob_IsDigest.f
 simp only [cb_dec]
 by_cases h : (s.size : Int) = 16
 ·rw [if_pos h]
  unfold strings_Trim.f
  rw [ck_pos ⟨by omega, by decide, by decide⟩, ob_s]
  exact ⟨_, rfl⟩
 ·rw [if_neg h]; exact ⟨_, rfl⟩
theorem isDigest8_eq : ref8_isDigest.f = blob_IsDigest.f := rfl
end Go.Proofs.YtpeiomhgaembaaaDoor
set_option linter.unusedVariables false
set_option linter.unusedSimpArgs false
namespace Go.Proofs.YtpeiomhgaembaaaDoor
open Go Go.Proofs.YtpeiomhgaembaaaDoor.Eng
abbrev Msg := Int × (ByteArray × (Int × (Int × List UInt8)))
theorem msgLoop (d : ByteArray) (b : List UInt8) (most : Int) (hb : b.length ≤ 100000) (hm : 1 ≤ most ∧ most ≤ 65536) :
  ∀ (n k : Nat) (o : List Msg), b.length + 65536 - k ≤ n → k ≤ b.length + 65536 → o.length ≤ k + 1 → (∀ m ∈ o, m.2.2.2.2.length ≤ 100000) →
   ∃ o', wire_Messages.l0 d b most (k : Int) o = some o' ∧ ref8_messages.l0 d b most (k : Int) o = some o' ∧ o'.length ≤ 200000 ∧ ∀ m ∈ o', m.2.2.2.2.length ≤ 100000 := by
 intro n
 induction n with
 | zero =>
  intro k o hn hk ho hbs
  refine ⟨o, loopX_done ?_, loopX_done ?_, by omega, hbs⟩
  ·simp only [wire_Messages.s0, cb_dec]
   rw [if_neg (by omega)]
  ·simp only [ref8_messages.s0, cb_dec]
   rw [if_neg (by omega)]
 | succ n ih =>
  intro k o hn hk ho hbs
  by_cases hlt : k < b.length
  ·obtain ⟨mn, hmn⟩ := Int.eq_ofNat_of_zero_le (show 0 ≤ most by omega)
   subst hmn
   let y : List UInt8 := List.drop k (List.take (Int.toNat (min ((k : Int) + (mn : Int)) (b.length : Int))) b)
   have hy : y.length ≤ 100000 := by
    show (List.drop k (List.take _ b)).length ≤ 100000
    rw [List.length_drop, List.length_take]; omega
   have ek : Int.toNat (k : Int) = k := by omega
   obtain ⟨o', h1, h2, h3, h4⟩ := ih (k + mn) (o ++ [((2 : Int), (d, ((k : Int), ((0 : Int), y))))]) (by omega) (by omega) (by simp; omega) (by
    intro m hm'
    rcases List.mem_append.1 hm' with h | h
    ·exact hbs m h
    ·rw [List.mem_singleton.1 h]; exact hy)
   have hlen : (List.length o + List.length ([((2 : Int), (d, ((k : Int), ((0 : Int), y))))] : List Msg)) * 64 ≤ 140737488355328 := by simp; omega
   have hcl : slices_Clone_byte_byte.f y = some y := cloneB (by omega)
   have hpos : 0 ≤ (k : Int) ∧ (k : Int) ≤ min ((k : Int) + (mn : Int)) (b.length : Int) ∧ min ((k : Int) + (mn : Int)) (b.length : Int) ≤ (b.length : Int) := by omega
   have hdf : wire_dataFrom.f d b (k : Int) (mn : Int) = some ((2 : Int), (d, ((k : Int), ((0 : Int), y)))) := by
    unfold wire_dataFrom.f
    rw [ck_in (by omega) (by omega)]
    simp only [ek]
    rw [ck_pos hpos]
    show ob (slices_Clone_byte_byte.f y) _ = _
    rw [hcl, ob_s]
   refine ⟨o', (loopX_next ?_).trans h1, (loopX_next ?_).trans h2, h3, h4⟩
   ·simp only [wire_Messages.s0, cb_dec, hdf, ob_s]
    rw [if_pos (by omega), ck_pos hlen, ck_in (by omega) (by omega)]
    simp
   ·simp only [ref8_messages.s0, cb_dec, ek]
    rw [if_pos (by omega), ck_in (by omega) (by omega), ck_pos hpos]
    show ob (slices_Clone_byte_byte.f y) _ = _
    rw [hcl, ob_s, ck_pos hlen, ck_in (by omega) (by omega)]
    simp
  ·refine ⟨o, loopX_done ?_, loopX_done ?_, by omega, hbs⟩
   ·simp only [wire_Messages.s0, cb_dec]
    rw [if_neg (by omega)]
   ·simp only [ref8_messages.s0, cb_dec]
    rw [if_neg (by omega)]
theorem sameMsg (m : Msg) (h : m.2.2.2.2.length ≤ 1000000000000000) : ref8_SameMessage.f m m = some true := by
 unfold ref8_SameMessage.f
 simp only [decide_true, cb_t, equalB h, ob_s]
theorem sameMsgs (l : List Msg) (hl : l.length ≤ 1000000000000000) (h : ∀ m ∈ l, m.2.2.2.2.length ≤ 1000000000000000) : ref8_SameMessages.f l l = some true := by
 have go : ∀ (n k : Nat), l.length - k = n → k ≤ l.length → ref8_SameMessages.l0 l l (l.length : Int) (k : Int) = some (.inr ()) := by
  intro n
  induction n with
  | zero =>
   intro k hn hk
   refine loopX_done ?_
   simp only [ref8_SameMessages.s0, cb_dec]
   rw [if_neg (by omega)]
  | succ n ih =>
   intro k hn hk
   have hlt : k < l.length := by omega
   refine (loopX_next ?_).trans (ih (k + 1) (by omega) (by omega))
   simp only [ref8_SameMessages.s0, cb_dec, cb_not, rd_lt hlt, sameMsg _ (h _ (List.getElem_mem hlt)), ob_s, cb_t]
   rw [if_pos (by omega), ck_pos (by omega), ck_pos (by omega), ck_in (by omega) (by omega)]
   rfl
 unfold ref8_SameMessages.f
 have := go l.length 0 (by omega) (by omega)
 rw [show ((0 : Nat) : Int) = 0 from rfl] at this
 simp only [decide_true, Bool.not_true, cb_f, this, ob_s, caseS_r]
theorem messages_same (d : ByteArray) (b : List UInt8) (p most : Int) :
  ∃ r, wire_Messages.f d b p most = some r ∧ ref8_Messages.f d b p most = some r ∧ r.1.length ≤ 200000 ∧ ∀ m ∈ r.1, m.2.2.2.2.length ≤ 100000 := by
 obtain ⟨q, hq⟩ := isDigest_eq d
 have h8 : ref8_isDigest.f d = some q := hq
 unfold wire_Messages.f ref8_Messages.f wire_checkContent.f
 simp only [hq, h8, ob_s, cb_not]
 cases q with
 | false =>
  simp only [cb_f, ob_s, cb_dec]
  exact ⟨_, by rw [if_neg (by decide)], rfl, by simp, fun m h => by cases h⟩
 | true =>
  simp only [cb_t, cb_dec]
  by_cases h1 : (100000 : Int) < (b.length : Int)
  ·rw [if_pos h1, if_pos h1, ob_s, if_neg (by decide)]
   exact ⟨_, rfl, rfl, by simp, fun m h => by cases h⟩
  ·rw [if_neg h1, if_neg h1, ob_s, if_pos rfl]
   simp only [within_eq, within8_eq, ob_s, cb_dec]
   by_cases h2 : 0 ≤ p ∧ p ≤ (b.length : Int)
   ·rw [if_pos h2, if_pos h2]
    by_cases h3 : 1 ≤ most ∧ most ≤ 65536
    ·rw [if_pos h3, if_pos h3]
     obtain ⟨k, rfl⟩ := Int.eq_ofNat_of_zero_le h2.1
     obtain ⟨o', h4, h5, h6, h7⟩ := msgLoop d b most (by omega) h3 (b.length + 65536 - k) k [((1 : Int), (d, ((0 : Int), ((b.length : Int), ([] : List UInt8)))))] (by omega) (by omega) (by simp) (by simp)
     refine ⟨(o', 0), ?_, ?_, h6, h7⟩
     ·rw [h4, ob_s]
     ·unfold ref8_messages.f
      simp only
      rw [h5, ob_s, ob_s]
    ·rw [if_neg h3, if_neg h3]
     exact ⟨_, rfl, rfl, by simp, fun m h => by cases h⟩
   ·rw [if_neg h2, if_neg h2]
    exact ⟨_, rfl, rfl, by simp, fun m h => by cases h⟩
theorem law_MM (d : ByteArray) (b : List UInt8) (p most : Int) (hb : b.length ≤ 140737488355328) : law8_WireMessagesMatchSpec.f d b p most = some true := by
 obtain ⟨r, h1, h2, h3, h4⟩ := messages_same d b p most
 unfold law8_WireMessagesMatchSpec.f
 rw [cloneB hb, ob_s, h1, ob_s, h2, ob_s]
 simp only [decide_true, cb_t, sameMsgs r.1 (by omega) (fun m hm => Nat.le_trans (h4 m hm) (by omega)), ob_s, equalB (show b.length ≤ 1000000000000000 by omega), awake_eq]
end Go.Proofs.YtpeiomhgaembaaaDoor
set_option linter.unusedVariables false
set_option linter.unusedSimpArgs false
set_option maxRecDepth 100000
set_option maxHeartbeats 4000000
namespace Go.Proofs.YtpeiomhgaembaaaDoor
open Go Go.RowKit Go.ChangeShapes Go.WideShapes Go.ChangeAt Go.Proofs.YtpeiomhgaembaaaDoor.Eng
theorem law_MM' (x : ByteArray × List UInt8 × Int × Int) (hx : InA T 6 [9, 32, 3, 3] [.str, .slice .byte, .int .i64, .int .i64] x) : law8_WireMessagesMatchSpec.f x.1 x.2.1 x.2.2.1 x.2.2.2 = some true := by
 have hr : reachBytes ≤ 140737488355328 := by decide +kernel
 have h : List.length x.2.1 * 1 ≤ reachBytes := hx.2.1.1
 exact law_MM x.1 x.2.1 x.2.2.1 x.2.2.2 (by omega)
theorem own : ownKnob Tryd.prog.godebug = none := by kernel_rfl
theorem laidOut : laidOutB Tryd.prog = true := by kernel_rfl
theorem wireMessagesMatchSpec_av (xs : List AV) (h : ShapeA T 6 [9,32,3,3] xs) : FPure Tryd.prog 4 xs (.v (.bool true)) :=
 law_typed (T := T) (m := 6) (ts := [9,32,3,3]) law8_WireMessagesMatchSpec.ok (by kernel_rfl) (fun x hx => law_MM' x hx) xs h
theorem wireMessagesMatchSpec_lifted (os : Os) (started : os.Started) (H : Type) (enc : TypeId × Value → H) :
  ReturnsInHanded {} Tryd.checked os 4 .any (fun w args => (Rows.wireMessagesMatchSpecSpec.pre enc Tryd.prog Tryd.f4 Rows.wireMessagesMatchSpecRow.domain false w args ∧ laidMetH Tryd.prog Rows.wireMessagesMatchSpecRow.laid w) ∧ sizedMet enc Tryd.prog Tryd.f4 (OpenSpec.ofChange Rows.wireMessagesMatchSpecSpec) false w args)
   (Rows.wireMessagesMatchSpecSpec.post enc Tryd.prog Tryd.f4 false true false false) := by
 refine returnsInHanded_of_change_and (C := Tryd.checked) (X := fun w _ => laidMetH Tryd.prog Rows.wireMessagesMatchSpecRow.laid w) (fun _ _ _ hh h => h.of_heap hh) own started (by kernel_rfl) Tryd.func4
  (ChangeSpec.witness_shaped (enc := enc) (C := Tryd.checked) (os := os) (X := fun w _ => laidMetH Tryd.prog Rows.wireMessagesMatchSpecRow.laid w) false (World.laidAll Tryd.prog os Rows.wireMessagesMatchSpecRow.laid) #[.string ByteArray.empty, .slice none 0 0, .int .i64 0, .int .i64 0] 8 (World.laidAll_os _ _ _)
   (World.shaped_of_ZipB (by kernel_rfl) (by kernel_rfl)) (by kernel_rfl) (by kernel_rfl) (by kernel_rfl)
   (by rw [MakeChecks.laidMetH_plain _ _ _ (by kernel_rfl)]; exact laidMet_laidAll _ (by kernel_rfl) (by kernel_rfl))) ?_
 intro W base args ds gs before hval0 hW hcnd hsz0 hL _
 have hW' := hW
 obtain ⟨p, q, hA0, hV, rfl, hfz, hnd⟩ := hW
 have hsz : (DataW.weightsEach Tryd.prog (Tryd.f4.params.toList ++ Rows.wireMessagesMatchSpecSpec.plain.varTypes Tryd.prog) (ds ++ gs)).all (· ≤ reachBytes) = true := hsz0
 have hA : DataW.TrodAll enc Tryd.prog W 0 (fun _ => true) true [9,32,3,3] args.toList ds p := hA0
 obtain ⟨rfl, rfl⟩ := trodVars_none hV
 have hlaw := law_calls (r := .any) (b0 := base) tabOK laidOut wireMessagesMatchSpec_av (by decide +kernel) (by kernel_rfl) hA (fun j t v h1 h2 => hval0 j t v (by simpa using h1) (by simpa using h2)) (by rw [List.append_nil] at hsz; exact hsz)
 simp only [Array.toArray_toList] at hlaw
 refine hlaw.mono fun e W' ⟨he, bel, hback⟩ => ?_
 subst he
 obtain ⟨d1, d2, d3, d4, hds⟩ : ∃ d1 d2 d3 d4, ds = [d1, d2, d3, d4] := by
  obtain ⟨_, _, d1, _, _, _, _, rfl, _, _, h⟩ := trodAll_cons hA
  obtain ⟨_, _, d2, _, _, _, _, rfl, _, _, h⟩ := trodAll_cons h
  obtain ⟨_, _, d3, _, _, _, _, rfl, _, _, h⟩ := trodAll_cons h
  obtain ⟨_, _, d4, _, _, _, _, rfl, _, _, h⟩ := trodAll_cons h
  obtain ⟨_, rfl, _⟩ := trodAll_nil h
  exact ⟨d1, d2, d3, d4, rfl⟩
 subst hds
 exact ⟨_, rfl, _, _, _, [], _, [], hW', trodAll_mk1 (shut_bool Tryd.underlying4 _), hback, rfl, bel.frame _, fun h => by cases h⟩
theorem wireMessagesMatchSpec_facts : joinedFacts Tryd.prog 4 Tryd.f4 Rows.wireMessagesMatchSpecSpec Rows.wireMessagesMatchSpecRow = true := by kernel_rfl
theorem wireMessagesMatchSpec_over : Rows.wireMessagesMatchSpecRow.holds Tryd.pinned (OpenSpec.ofChange Rows.wireMessagesMatchSpecSpec) :=
 OpenClaim.holds_of_wide 4 Tryd.f4 rfl rfl rfl rfl rfl rfl rfl ⟨rfl, rfl, rfl, rfl, rfl⟩ rfl rfl rfl rfl rfl (by kernel_rfl) Tryd.func4 wireMessagesMatchSpec_facts
  (of_decide_eq_true (by kernel_rfl)) (by unfold Func.isWrapper; first | (rw [if_pos (by decide +kernel)]; kernel_rfl) | (rw [if_neg (by decide +kernel)]; exact ⟨rfl, rfl⟩))
  (fun os started H enc _ => wireMessagesMatchSpec_lifted os started H enc)
theorem wireMessagesMatchSpec_wf : Rows.wireMessagesMatchSpecRow.wfByText (OpenSpec.ofChange Rows.wireMessagesMatchSpecSpec) = true := by kernel_rfl
theorem wireMessagesMatchSpec_main : Tryd.pinned.checked.prog.mainIs = some (true, "e39929bad2eab1783ee56fd07625803768cd0b14b7dff25f9ddf956a9ecc1117".toList) := by kernel_rfl
theorem wireMessagesMatchSpec_looks : false = Tryd.pinned.checked.prog.looks [] := by kernel_rfl
theorem wireMessagesMatchSpec_goes : false = Rows.wireMessagesMatchSpecRow.goesBy Tryd.pinned.checked.prog := by kernel_rfl
theorem wireMessagesMatchSpec_named : Tryd.prog.funcNamed "smithyard/smithyardlaw8.WireMessagesMatchSpec" = some 4 := by kernel_rfl
theorem wireMessagesMatchSpec_noStand : ([9,32,3,3].all fun u => !Tryd.prog.wantsStandIn u) = true := by kernel_rfl
theorem wireMessagesMatchSpec_holds : Rows.WireMessagesMatchSpecCardSaid :=
 Claim7.holds_tied_plain_at .later [] [.data, .pinned] true (true, "e39929bad2eab1783ee56fd07625803768cd0b14b7dff25f9ddf956a9ecc1117") false wireMessagesMatchSpec_over (fun _ h => by cases h) wireMessagesMatchSpec_wf (fun _ h => by cases h) wireMessagesMatchSpec_row_tie rfl ⟨rfl, rfl⟩ wireMessagesMatchSpec_main rfl
  (fun f fn hf hfn => by
   obtain rfl : f = 4 := Option.some.inj (wireMessagesMatchSpec_named.symm.trans hf) |>.symm
   obtain rfl : fn = Tryd.f4 := (Option.some.inj (Tryd.func4.symm.trans hfn)).symm
   exact ⟨wireMessagesMatchSpec_looks, fun j t ht => by
    rw [Tryd.params4] at ht
    have hm : t ∈ [9,32,3,3] := by simpa using Array.mem_of_getElem? ht
    exact (show Tryd.prog.wantsStandIn t = false by simpa using List.all_eq_true.1 wireMessagesMatchSpec_noStand t hm)⟩)
  wireMessagesMatchSpec_goes
end Go.Proofs.YtpeiomhgaembaaaDoor
