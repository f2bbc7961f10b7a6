/-
  The law TopPiecesOverLines hands back true for every argument, and leaves its arguments as they were. No condition.
-/
import Derived.Test.YtljfadhmenadlaaFun
import Derived.Test.YtljfadhmenadlaaTypB
import Derived.Test.YtljfadhmenadlaaRows
set_option linter.unusedVariables false
set_option linter.unusedSimpArgs false
namespace Go.Proofs.Ytljfadhmenadlaa
open Go Go.Proofs.Ytljfadhmenadlaa.Eng
theorem ck_dec {β : Type} {c : Prop} [h : Decidable c] {a : Option β} : ck c a = if c then a else none := by
  unfold ck
  by_cases hc : c
  · rw [if_pos hc, if_pos hc]
  · rw [if_neg hc, if_neg hc]
instance (x : Int) : Decidable (InR x) := by unfold InR; exact inferInstance
def digS (x : Int × (Int × List UInt8)) : Option ((Int × (Int × List UInt8)) ⊕ List UInt8) :=
  if x.2.1 < 16 then
    (if InR (15 - x.2.1) then
      (let y15 : Int := IntKind.u64.wrap ((BitVec.toNat (BitVec.ofInt (IntKind.bits .u64) x.1 &&& BitVec.ofInt (IntKind.bits .u64) (15 : Int)) : Nat) : Int)
       if 0 ≤ y15 ∧ y15 < ((ByteArray.size bs_48_49_50_51_52_53_54_55_56_57_97_98_99_100_101_102 : Nat) : Int) then
        (if 0 ≤ ((15 : Int) - x.2.1) ∧ ((15 : Int) - x.2.1) < ((List.length x.2.2 : Nat) : Int) then
          (if (Int.toNat ((15 : Int) - x.2.1)) < List.length x.2.2 then
            (if InR (x.2.1 + 1) then some (.inl (Int.fdiv x.1 (2 ^ min (Int.toNat (4 : Int)) (IntKind.bits .u64)), x.2.1 + 1, List.set x.2.2 (Int.toNat ((15 : Int) - x.2.1)) (bt bs_48_49_50_51_52_53_54_55_56_57_97_98_99_100_101_102 y15))) else none) else none) else none) else none) else none)
  else some (.inr x.2.2)
theorem digS_eq : (fun x : Int × (Int × List UInt8) => blob_Digest.s1 16 x.1 x.2.1 x.2.2) = digS := by
  funext x
  simp only [blob_Digest.s1, cb_dec, ck_dec]
  rfl
def dig0 (x : Int × Int) : Option ((Int × Int) ⊕ Int) :=
  if x.2 < 1 then
    (if 0 ≤ x.2 ∧ x.2 < (([97] : List UInt8).length : Int) then
      (if InR (x.2 + 1) then some (.inl (IntKind.u64.wrap (IntKind.u64.wrap ((BitVec.toNat (BitVec.ofInt (IntKind.bits .u64) x.1 ^^^ BitVec.ofInt (IntKind.bits .u64) (IntKind.u64.wrap ((UInt8.toNat (rd (0 : UInt8) ([97] : List UInt8) x.2) : Nat) : Int))) : Nat) : Int) * 1099511628211), x.2 + 1)) else none) else none)
  else some (.inr x.1)
theorem dig0_eq : (fun x : Int × Int => blob_Digest.s0 [97] 1 x.1 x.2) = dig0 := by
  funext x
  simp only [blob_Digest.s0, cb_dec, ck_dec]
  rfl
theorem lives_eq : top_lives.f = some true := by
  have h0 : blob_Digest.l0 [97] 1 14695981039346656037 0 = some 12638187200555641996 := by
    unfold blob_Digest.l0
    rw [dig0_eq]
    exact loopX_of (n := 2) (show loopN dig0 2 _ = _ from by kernel_rfl)
  have h1 : blob_Digest.l1 16 12638187200555641996 0 (List.replicate 16 0) = some [97, 102, 54, 51, 100, 99, 52, 99, 56, 54, 48, 49, 101, 99, 56, 99] := by
    unfold blob_Digest.l1
    rw [digS_eq]
    exact loopX_of (n := 17) (show loopN digS 17 _ = _ from by kernel_rfl)
  have h2 : blob_Digest.f [97] = some (bstr [97, 102, 54, 51, 100, 99, 52, 99, 56, 54, 48, 49, 101, 99, 56, 99]) := by
    unfold blob_Digest.f
    show ob (blob_Digest.l0 [97] 1 14695981039346656037 0) _ = _
    rw [h0, ob_s, ck_pos (by decide)]
    show ob (blob_Digest.l1 16 12638187200555641996 0 (List.replicate 16 0)) _ = _
    rw [h1, ob_s]
  unfold top_lives.f
  rw [ck_pos (by decide)]
  show ob (blob_Digest.f [97]) _ = _
  rw [h2, ob_s]
  have : bstr [97, 102, 54, 51, 100, 99, 52, 99, 56, 54, 48, 49, 101, 99, 56, 99] = bs_97_102_54_51_100_99_52_99_56_54_48_49_101_99_56_99 := by kernel_rfl
  rw [this]
  simp
end Go.Proofs.Ytljfadhmenadlaa
set_option linter.unusedVariables false
set_option linter.unusedSimpArgs false
namespace Go.Proofs.Ytljfadhmenadlaa
open Go Go.Proofs.Ytljfadhmenadlaa.Eng
def sumI : List Int → Int
  | [] => 0
  | x :: l => x + sumI l
theorem sumI_app (a b : List Int) : sumI (a ++ b) = sumI a + sumI b := by
  induction a with
  | nil => simp [sumI]
  | cons x a ih => simp only [List.cons_append, sumI, ih]; omega
theorem powLoop : ∀ (n : Nat) (k : Nat) (h : Int), 15 - k = n → k ≤ 15 → ∃ r, blob_cut.l0 h (k : Int) = some r := by
  intro n
  induction n with
  | zero =>
    intro k h hn hk
    refine ⟨h, loopX_done ?_⟩
    simp only [blob_cut.s0, cb_dec]
    rw [if_neg (by omega)]
  | succ n ih =>
    intro k h hn hk
    obtain ⟨r, hr⟩ := ih (k + 1) (IntKind.u32.wrap (h * 31)) (by omega) (by omega)
    refine ⟨r, (loopX_next ?_).trans hr⟩
    simp only [blob_cut.s0, cb_dec]
    rw [if_pos (by omega), ck_in (by omega) (by omega)]
    rfl
/-- What a round may come to. -/
def cutP (k a : Nat) (o : List Int) (r : Option ((Int × (Int × (Int × (List Int)))) ⊕ (Int × (List Int)))) : Prop :=
  ∃ h : Int, r = some (.inl (h, ((k : Int) + 1, ((k : Int) + 1, o ++ [(k : Int) + 1 - a])))) ∨ r = some (.inl (h, ((a : Int), ((k : Int) + 1, o))))
theorem cutP_if {k a : Nat} {o : List Int} {c : Prop} [Decidable c] {x y : Option ((Int × (Int × (Int × (List Int)))) ⊕ (Int × (List Int)))} (h1 : cutP k a o x) (h2 : cutP k a o y) : cutP k a o (if c then x else y) := by
  by_cases h : c
  · rw [if_pos h]; exact h1
  · rw [if_neg h]; exact h2
theorem cutStep {b : List UInt8} {least bits most c h : Int} {k a : Nat} {o : List Int} (hk : k < b.length) (hb : b.length ≤ 2000000) (ha : a ≤ k) (ho : o.length ≤ k) (hbits : 0 ≤ bits) :
    cutP k a o (blob_cut.s1 b least bits most c b (b.length : Int) h (a : Int) (k : Int) o) := by
  have hx1 : InR ((k : Int) + 1) := by unfold InR; omega
  have hx2 : InR ((k : Int) + 1 - a) := by unfold InR; omega
  have hx3 : InR ((k : Int) - 16) := by unfold InR; omega
  have hx4 : (o.length + [(k : Int) + 1 - a].length) * 8 ≤ 140737488355328 := by simp only [List.length_cons, List.length_nil]; omega
  have hx5 : 0 ≤ (k : Int) ∧ (k : Int) < (b.length : Int) := by omega
  simp only [blob_cut.s1, cb_dec]
  rw [if_pos hx5.2, ck_pos hx5]
  by_cases h16 : (16 : Int) ≤ (k : Int)
  · have hx6 : 0 ≤ (k : Int) - 16 ∧ (k : Int) - 16 < (b.length : Int) := by omega
    rw [if_pos h16]
    simp only [ck_pos hx1, ck_pos hx2, ck_pos hx3, ck_pos hx4, ck_pos hx6, ck_pos hbits]
    repeat' first | exact ⟨_, .inl rfl⟩ | exact ⟨_, .inr rfl⟩ | refine cutP_if ?_ ?_
  · rw [if_neg h16]
    simp only [ck_pos hx1, ck_pos hx2, ck_pos hx4, ck_pos hbits]
    repeat' first | exact ⟨_, .inl rfl⟩ | exact ⟨_, .inr rfl⟩ | refine cutP_if ?_ ?_
/-- Sizes of pieces. -/
def goodS (l : List Int) : Prop := ∀ x ∈ l, 1 ≤ x
theorem cutLoop {b : List UInt8} {least bits most c : Int} (hb : b.length ≤ 2000000) (hbits : 0 ≤ bits) : ∀ (n k a : Nat) (h : Int) (o : List Int), b.length - k = n → k ≤ b.length → a ≤ k → o.length ≤ k → goodS o → sumI o = a →
    ∃ (a' : Nat) (o' : List Int), blob_cut.l1 b least bits most c b (b.length : Int) h (a : Int) (k : Int) o = some ((a' : Int), o') ∧ a' ≤ b.length ∧ o'.length ≤ b.length ∧ goodS o' ∧ sumI o' = a' := by
  intro n
  induction n with
  | zero =>
    intro k a h o hn hk ha ho hg hs
    obtain rfl : k = b.length := by omega
    refine ⟨a, o, loopX_done ?_, ha, ho, hg, hs⟩
    simp only [blob_cut.s1, cb_dec]
    rw [if_neg (by omega)]
  | succ n ih =>
    intro k a h o hn hk ha ho hg hs
    have hlt : k < b.length := by omega
    obtain ⟨h', hstep | hstep⟩ := cutStep (least := least) (bits := bits) (most := most) (c := c) (h := h) hlt hb ha ho hbits
    · obtain ⟨a', o', h1, h2⟩ := ih (k + 1) (k + 1) h' (o ++ [(k : Int) + 1 - a]) (by omega) (by omega) (by omega) (by simp; omega) (fun x hx => by
        rcases List.mem_append.1 hx with hx | hx
        · exact hg x hx
        · obtain rfl := List.mem_singleton.1 hx
          omega) (by rw [sumI_app, hs]; simp only [sumI]; omega)
      exact ⟨a', o', (loopX_next hstep).trans h1, h2⟩
    · obtain ⟨a', o', h1, h2⟩ := ih (k + 1) a h' o (by omega) (by omega) (by omega) (by omega) hg hs
      exact ⟨a', o', (loopX_next hstep).trans h1, h2⟩
theorem cut_eq {b : List UInt8} {least bits most : Int} (hb : b.length ≤ 2000000) (hbits : 0 ≤ bits) : ∃ l, blob_cut.f b least bits most = some l ∧ goodS l ∧ sumI l = b.length := by
  obtain ⟨c, hc⟩ := powLoop 15 0 1 (by omega) (by omega)
  rw [show ((0 : Nat) : Int) = 0 from rfl] at hc
  obtain ⟨a, o, h1, h2, h3, h4, h5⟩ := cutLoop (least := least) (bits := bits) (most := most) (c := c) hb hbits b.length 0 0 0 [] (by omega) (by omega) (by omega) (by simp) (fun x hx => by cases hx) rfl
  rw [show ((0 : Nat) : Int) = 0 from rfl] at h1
  unfold blob_cut.f
  rw [hc, ob_s]
  simp only [h1, ob_s, cb_dec]
  by_cases h : (a : Int) < (b.length : Int)
  · rw [if_pos h, ck_in (by omega) (by omega), ck_pos (by simp only [List.length_cons, List.length_nil]; omega)]
    refine ⟨_, rfl, fun x hx => ?_, by rw [sumI_app, h5]; simp only [sumI]; omega⟩
    rcases List.mem_append.1 hx with hx | hx
    · exact h4 x hx
    · obtain rfl := List.mem_singleton.1 hx
      omega
  · rw [if_neg h]
    exact ⟨_, rfl, h4, by rw [h5]; omega⟩
/-- What the pieces of bytes are. -/
theorem pieces_eq (b : List UInt8) (least bits most : Int) : ∃ r, blob_Pieces.f b least bits most = some r ∧ (r.2 ≠ 0 → r.1 = []) ∧ (r.2 = 0 → goodS r.1 ∧ sumI r.1 = b.length ∧ r.1.length ≤ 20000 ∧ b.length ≤ 2000000) := by
  have bad : ∀ c : Int, c ≠ 0 → ∃ r : List Int × Int, some (([] : List Int), c) = some r ∧ (r.2 ≠ 0 → r.1 = []) ∧ (r.2 = 0 → goodS r.1 ∧ sumI r.1 = b.length ∧ r.1.length ≤ 20000 ∧ b.length ≤ 2000000) := fun c hc => ⟨_, rfl, fun _ => rfl, fun h => absurd h hc⟩
  unfold blob_Pieces.f
  simp only [cb_dec]
  by_cases h1 : (2000000 : Int) < (b.length : Int)
  · rw [if_pos h1]; exact bad 2 (by decide)
  · rw [if_neg h1]
    by_cases h2 : least < 1
    · rw [if_pos h2]; exact bad 1 (by decide)
    · rw [if_neg h2]
      by_cases h3 : most < least
      · rw [if_pos h3]; exact bad 1 (by decide)
      · rw [if_neg h3]
        by_cases h4 : bits < 0
        · rw [if_pos h4]; exact bad 1 (by decide)
        · rw [if_neg h4]
          by_cases h5 : 20 < bits
          · rw [if_pos h5]; exact bad 1 (by decide)
          · rw [if_neg h5]
            by_cases h6 : 100000 < most
            · rw [if_pos h6]; exact bad 1 (by decide)
            · rw [if_neg h6]
              obtain ⟨l, h7, h8, h9⟩ := cut_eq (least := least) (bits := bits) (most := most) (show b.length ≤ 2000000 by omega) (by omega)
              rw [h7, ob_s]
              by_cases h10 : (20000 : Int) < (l.length : Int)
              · rw [if_pos h10]; exact bad 2 (by decide)
              · rw [if_neg h10]
                exact ⟨_, rfl, fun h => absurd rfl h, fun _ => ⟨h8, h9, by show l.length ≤ _; omega, by omega⟩⟩
/-- The pieces themselves. -/
def cutL : List UInt8 → List Int → List (List UInt8)
  | _, [] => []
  | b, n :: l => b.take n.toNat :: cutL (b.drop n.toNat) l
theorem sumI_pos : ∀ {l : List Int}, goodS l → 0 ≤ sumI l
  | [], _ => by simp [sumI]
  | x :: l, h => by
    have h1 := h x (List.mem_cons_self ..)
    have h2 := sumI_pos (l := l) (fun y hy => h y (List.mem_cons_of_mem _ hy))
    simp only [sumI]; omega
theorem topCut {b : List UInt8} {l : List Int} (hg : goodS l) (hs : sumI l = b.length) (hl : l.length ≤ 20000) (hb : b.length ≤ 2000000) : ∀ (n k a : Nat) (o : List (List UInt8)), l.length - k = n → k ≤ l.length → o.length = k → sumI (l.take k) = a →
    top_cut.l0 b l (a : Int) (k : Int) o = some (o ++ cutL (b.drop a) (l.drop k)) := by
  intro n
  induction n with
  | zero =>
    intro k a o hn hk ho ha
    obtain rfl : k = l.length := by omega
    rw [List.drop_length]
    refine loopX_done ?_
    simp only [top_cut.s0, cb_dec]
    rw [if_neg (by omega)]
    simp [cutL]
  | succ n ih =>
    intro k a o hn hk ho ha
    have hlt : k < l.length := by omega
    have hx := hg l[k] (List.getElem_mem hlt)
    have hsplit : sumI (l.take k) + (l[k] + sumI (l.drop (k + 1))) = b.length := by
      rw [← hs]
      conv => rhs; rw [← List.take_append_drop k l, List.drop_eq_getElem_cons hlt, sumI_app]
      rfl
    have hrest := sumI_pos (l := l.drop (k + 1)) (fun y hy => hg y (List.mem_of_mem_drop hy))
    obtain ⟨m, hm⟩ := Int.eq_ofNat_of_zero_le (show 0 ≤ l[k] by omega)
    have hnext := ih (k + 1) (a + m) (o ++ [List.drop a (List.take (a + m) b)]) (by omega) (by omega) (by simp; omega) (by rw [List.take_succ_eq_append_getElem hlt, sumI_app, ha]; simp only [sumI]; omega)
    have hd : List.drop a (List.take (a + m) b) = List.take m (List.drop a b) := by rw [List.drop_take]; congr 1; omega
    have e1 : Int.toNat (a : Int) = a := by omega
    have e2 : Int.toNat ((a : Int) + (m : Int)) = a + m := by omega
    refine (loopX_next (x' := (((a + m : Nat) : Int), (((k + 1 : Nat) : Int), o ++ [List.drop a (List.take (a + m) b)]))) ?_).trans (hnext.trans ?_)
    · simp only [top_cut.s0, cb_dec, rd_lt hlt, hm, e1, e2]
      rw [if_pos (by omega), ck_pos (by omega), ck_in (by omega) (by omega), ck_pos (by omega), ck_pos (by simp only [List.length_cons, List.length_nil]; omega), ck_pos (by omega), ck_in (by omega) (by omega), ck_in (by omega) (by omega)]
      rfl
    · rw [List.drop_eq_getElem_cons hlt, hd]
      have : cutL (List.drop a b) (l[k] :: List.drop (k + 1) l) = List.take m (List.drop a b) :: cutL (List.drop (a + m) b) (List.drop (k + 1) l) := by
        simp only [cutL, hm]
        rw [Int.toNat_natCast, List.drop_drop]
      rw [this]
      simp
theorem topCut_eq {b : List UInt8} {l : List Int} (hg : goodS l) (hs : sumI l = b.length) (hl : l.length ≤ 20000) (hb : b.length ≤ 2000000) : top_cut.f b l = some (cutL b l) := by
  unfold top_cut.f
  have h := topCut hg hs hl hb l.length 0 0 [] (by omega) (by omega) rfl rfl
  rw [show ((0 : Nat) : Int) = 0 from rfl, List.drop_zero, List.drop_zero, List.nil_append] at h
  rw [h, ob_s]
end Go.Proofs.Ytljfadhmenadlaa
set_option linter.unusedVariables false
set_option linter.unusedSimpArgs false
namespace Go.Proofs.Ytljfadhmenadlaa
open Go Go.Proofs.Ytljfadhmenadlaa.Eng
abbrev BL := List (List UInt8)
def lenL : BL → Int
  | [] => 0
  | y :: l => (y.length : Int) + lenL l
theorem lenL_pos : ∀ l : BL, 0 ≤ lenL l
  | [] => by simp [lenL]
  | y :: l => by have := lenL_pos l; simp only [lenL]; omega
theorem lenL_app (a b : BL) : lenL (a ++ b) = lenL a + lenL b := by
  induction a with
  | nil => simp [lenL]
  | cons x a ih => simp only [List.cons_append, lenL, ih]; omega
theorem cutL_len : ∀ (b : List UInt8) (l : List Int), (cutL b l).length = l.length
  | _, [] => rfl
  | b, n :: l => by simp only [cutL, List.length_cons, cutL_len _ l]
theorem cutL_sum : ∀ (l : List Int) (b : List UInt8), goodS l → sumI l = b.length → lenL (cutL b l) = b.length
  | [], b, _, h => by simp only [sumI] at h; simp only [cutL, lenL]; omega
  | n :: l, b, hg, h => by
    have h1 := hg n (List.mem_cons_self ..)
    have h2 := sumI_pos (l := l) (fun y hy => hg y (List.mem_cons_of_mem _ hy))
    simp only [sumI] at h
    have ih := cutL_sum l (b.drop n.toNat) (fun y hy => hg y (List.mem_cons_of_mem _ hy)) (by rw [List.length_drop]; omega)
    simp only [cutL, lenL, ih, List.length_take, List.length_drop]
    omega
/-- This map has just these. -/
def hasM (m : List (ByteArray × Bool)) (A : BL) : Prop := ∀ s : ByteArray, Option.getD (mget s m) false = true ↔ s ∈ A.map bstr
theorem mget_set (s y : ByteArray) : ∀ m : List (ByteArray × Bool), mget s (mset y true m) = if s = y then some true else mget s m
  | [] => by
    by_cases h : s = y
    · rw [if_pos h]; simp [mset, mget, h]
    · rw [if_neg h]; simp [mset, mget, h]
  | p :: m => by
    have ih := mget_set s y m
    by_cases h1 : y = p.1
    · have e : mset y true (p :: m) = (y, true) :: m := by simp [mset, h1]
      rw [e]
      by_cases h : s = y
      · rw [if_pos h]; simp [mget, h]
      · have h2 : ¬ s = p.1 := by rw [← h1]; exact h
        rw [if_neg h]; simp [mget, h, h2]
    · have e : mset y true (p :: m) = p :: mset y true m := by simp [mset, h1]
      rw [e]
      by_cases h2 : s = p.1
      · have h : ¬ s = y := fun h => h1 (by rw [← h]; exact h2)
        rw [if_neg h]; simp [mget, h2]
      · have e1 : mget s (p :: mset y true m) = mget s (mset y true m) := by simp [mget, h2]
        have e2 : mget s (p :: m) = mget s m := by simp [mget, h2]
        rw [e1, e2, ih]
theorem hasM_nil : hasM [] [] := fun s => by simp [mget]
theorem hasM_add {m : List (ByteArray × Bool)} {A : BL} (h : hasM m A) (y : List UInt8) : hasM (mset (bstr y) true m) (A ++ [y]) := by
  intro s
  rw [mget_set, List.map_append, List.mem_append]
  by_cases hs : s = bstr y
  · rw [if_pos hs]; simp [hs]
  · rw [if_neg hs, h s]
    simp [hs]
open Classical in
noncomputable def freshL : BL → Nat → BL → List Nat × Int
  | _, _, [] => ([], 0)
  | A, k, y :: l => if bstr y ∈ A.map bstr then freshL A (k + 1) l else (k :: (freshL (A ++ [y]) (k + 1) l).1, (y.length : Int) + (freshL (A ++ [y]) (k + 1) l).2)
open Classical in
noncomputable def sharedL (X : BL) : BL → Int
  | [] => 0
  | y :: l => (if bstr y ∈ X.map bstr then (y.length : Int) else 0) + sharedL X l
theorem fresh_share (X : BL) : ∀ (l A : BL) (k : Nat), (∀ s, s ∈ X.map bstr → s ∈ A.map bstr) → 0 ≤ (freshL A k l).2 ∧ 0 ≤ sharedL X l ∧ (freshL A k l).2 + sharedL X l ≤ lenL l
  | [], A, k, h => by simp [freshL, sharedL, lenL]
  | y :: l, A, k, h => by
    simp only [freshL, sharedL, lenL]
    by_cases h1 : bstr y ∈ A.map bstr
    · have ih := fresh_share X l A (k + 1) h
      rw [if_pos h1]
      split <;> omega
    · have ih := fresh_share X l (A ++ [y]) (k + 1) (fun s hs => by rw [List.map_append]; exact List.mem_append_left _ (h s hs))
      rw [if_neg h1, if_neg (fun h2 => h1 (h _ h2))]
      simp only
      omega
theorem fresh_idx : ∀ (l A : BL) (k i : Nat), i ∈ (freshL A k l).1 → k ≤ i ∧ i < k + l.length
  | [], A, k, i, h => by simp [freshL] at h
  | y :: l, A, k, i, h => by
    simp only [freshL] at h
    simp only [List.length_cons]
    by_cases h1 : bstr y ∈ A.map bstr
    · rw [if_pos h1] at h
      have := fresh_idx l A (k + 1) i h; omega
    · rw [if_neg h1] at h
      rcases List.mem_cons.1 h with h | h
      · omega
      · have := fresh_idx l (A ++ [y]) (k + 1) i h; omega
theorem fresh_len : ∀ (l A : BL) (k : Nat), (freshL A k l).1.length ≤ l.length
  | [], A, k => by simp [freshL]
  | y :: l, A, k => by
    simp only [freshL, List.length_cons]
    by_cases h1 : bstr y ∈ A.map bstr
    · rw [if_pos h1]; have := fresh_len l A (k + 1); omega
    · rw [if_neg h1]; have := fresh_len l (A ++ [y]) (k + 1); simp only [List.length_cons]; omega
/-- The pieces at some places. -/
def pickL (Y : BL) (fr : List Nat) : BL := fr.map fun i => List.getD Y i []
theorem fresh_many (Y : BL) : ∀ (l A : BL) (k : Nat), Y.drop k = l → (freshL A k l).2 = lenL (pickL Y (freshL A k l).1)
  | [], A, k, h => by simp [freshL, pickL, lenL]
  | y :: l, A, k, h => by
    have hk : k < Y.length := by
      refine Nat.lt_of_not_le fun hle => ?_
      rw [List.drop_eq_nil_of_le hle] at h; cases h
    have h2 : Y.drop (k + 1) = l := by
      rw [List.drop_eq_getElem_cons hk] at h
      injection h
    have h3 : Y[k] = y := by
      rw [List.drop_eq_getElem_cons hk] at h
      injection h
    simp only [freshL]
    by_cases h1 : bstr y ∈ A.map bstr
    · rw [if_pos h1]; exact fresh_many Y l A (k + 1) h2
    · rw [if_neg h1]
      have ih := fresh_many Y l (A ++ [y]) (k + 1) h2
      have e : List.getD Y k [] = y := by rw [List.getD, List.getElem?_eq_getElem hk, h3]; rfl
      simp only [pickL, List.map_cons, lenL, e]
      rw [ih]; rfl
theorem fresh_cover (Y : BL) : ∀ (l A : BL) (k : Nat), Y.drop k = l → ∀ y ∈ l, bstr y ∈ (A ++ pickL Y (freshL A k l).1).map bstr
  | [], A, k, h, y, hy => by cases hy
  | z :: l, A, k, h, y, hy => by
    have hk : k < Y.length := by
      refine Nat.lt_of_not_le fun hle => ?_
      rw [List.drop_eq_nil_of_le hle] at h; cases h
    have h2 : Y.drop (k + 1) = l := by
      rw [List.drop_eq_getElem_cons hk] at h
      injection h
    have h3 : Y[k] = z := by
      rw [List.drop_eq_getElem_cons hk] at h
      injection h
    simp only [freshL]
    by_cases h1 : bstr z ∈ A.map bstr
    · rw [if_pos h1]
      rcases List.mem_cons.1 hy with rfl | hy
      · rw [List.map_append]; exact List.mem_append_left _ h1
      · exact fresh_cover Y l A (k + 1) h2 y hy
    · rw [if_neg h1]
      have e : List.getD Y k [] = z := by rw [List.getD, List.getElem?_eq_getElem hk, h3]; rfl
      have e2 : pickL Y (k :: (freshL (A ++ [z]) (k + 1) l).1) = z :: pickL Y (freshL (A ++ [z]) (k + 1) l).1 := by simp only [pickL, List.map_cons, e]
      simp only [e2]
      rcases List.mem_cons.1 hy with rfl | hy
      · rw [List.map_append]; exact List.mem_append_right _ (by simp)
      · have := fresh_cover Y l (A ++ [z]) (k + 1) h2 y hy
        rw [List.append_assoc] at this
        exact this
theorem checkLoop (l : BL) (hl : l.length ≤ 20000) (hs : lenL l ≤ 2000000) : ∀ (n k : Nat) (s : Int), l.length - k = n → k ≤ l.length → 0 ≤ s → s + lenL (l.drop k) = lenL l → wire_checkPieces.l0 l (l.length : Int) s (k : Int) = some (lenL l) := by
  intro n
  induction n with
  | zero =>
    intro k s hn hk h0 hsum
    obtain rfl : k = l.length := by omega
    rw [List.drop_length] at hsum
    refine loopX_done ?_
    simp only [wire_checkPieces.s0, cb_dec]
    rw [if_neg (by omega)]
    simp only [lenL] at hsum
    rw [show s = lenL l by omega]
  | succ n ih =>
    intro k s hn hk h0 hsum
    have hlt : k < l.length := by omega
    rw [List.drop_eq_getElem_cons hlt] at hsum
    simp only [lenL] at hsum
    have hp := lenL_pos (l.drop (k + 1))
    refine (loopX_next ?_).trans (ih (k + 1) (s + (l[k].length : Int)) (by omega) (by omega) (by omega) (by omega))
    simp only [wire_checkPieces.s0, cb_dec, rd_lt hlt]
    rw [if_pos (by omega), ck_pos (by omega), ck_in (by omega) (by omega), ck_in (by omega) (by omega)]
    rfl
theorem check_eq {l : BL} (hl : l.length ≤ 20000) (hs : lenL l ≤ 2000000) : wire_checkPieces.f l = some 0 := by
  unfold wire_checkPieces.f
  have h := checkLoop l hl hs l.length 0 0 (by omega) (by omega) (by omega) (by rw [List.drop_zero]; omega)
  rw [show ((0 : Nat) : Int) = 0 from rfl] at h
  simp only [h, ob_s, cb_dec]
  rw [if_neg (by omega), if_neg (by omega)]
theorem hasLoop (l : BL) (hl : l.length ≤ 20000) : ∀ (n k : Nat) (A : BL) (m : List (ByteArray × Bool)), l.length - k = n → k ≤ l.length → hasM m A → ∃ m', wire_Fresh.l0 l (l.length : Int) (k : Int) m = some m' ∧ hasM m' (A ++ l.drop k) := by
  intro n
  induction n with
  | zero =>
    intro k A m hn hk hm
    obtain rfl : k = l.length := by omega
    refine ⟨m, loopX_done ?_, by rw [List.drop_length, List.append_nil]; exact hm⟩
    simp only [wire_Fresh.s0, cb_dec]
    rw [if_neg (by omega)]
  | succ n ih =>
    intro k A m hn hk hm
    have hlt : k < l.length := by omega
    obtain ⟨m', h1, h2⟩ := ih (k + 1) (A ++ [l[k]]) _ (by omega) (by omega) (hasM_add hm l[k])
    refine ⟨m', (loopX_next ?_).trans h1, ?_⟩
    · simp only [wire_Fresh.s0, cb_dec, rd_lt hlt]
      rw [if_pos (by omega), ck_pos (by omega), ck_in (by omega) (by omega)]
      rfl
    · rw [List.drop_eq_getElem_cons hlt]
      rw [List.append_assoc] at h2
      exact h2
theorem freshLoop (l : BL) (hl : l.length ≤ 20000) (hs : lenL l ≤ 2000000) : ∀ (n k : Nat) (A : BL) (m : List (ByteArray × Bool)) (s : Int) (o : List Int), l.length - k = n → k ≤ l.length → hasM m A → o.length ≤ k → 0 ≤ s → s + lenL (l.drop k) ≤ 2000000 →
    ∃ m', wire_Fresh.l1 l (l.length : Int) s (k : Int) m o = some (s + (freshL A k (l.drop k)).2, m', o ++ (freshL A k (l.drop k)).1.map (fun i : Nat => (i : Int))) := by
  intro n
  induction n with
  | zero =>
    intro k A m s o hn hk hm ho h0 hsum
    obtain rfl : k = l.length := by omega
    refine ⟨m, loopX_done ?_⟩
    simp only [wire_Fresh.s1, cb_dec]
    rw [if_neg (by omega), List.drop_length]
    simp [freshL]
  | succ n ih =>
    intro k A m s o hn hk hm ho h0 hsum
    have hlt : k < l.length := by omega
    have hx1 : InR ((k : Int) + 1) := by unfold InR; omega
    rw [List.drop_eq_getElem_cons hlt] at hsum ⊢
    simp only [lenL] at hsum
    have hp := lenL_pos (l.drop (k + 1))
    by_cases h : bstr l[k] ∈ A.map bstr
    · obtain ⟨m', h1⟩ := ih (k + 1) A m s o (by omega) (by omega) hm (by omega) h0 (by omega)
      have e : freshL A k (l[k] :: l.drop (k + 1)) = freshL A (k + 1) (l.drop (k + 1)) := by simp only [freshL]; rw [if_pos h]
      rw [e]
      refine ⟨m', (loopX_next ?_).trans h1⟩
      have hb := (hm (bstr l[k])).2 h
      simp only [wire_Fresh.s1, cb_dec, cb_not, rd_lt hlt, hb, cb_t]
      rw [if_pos (by omega), ck_pos (by omega), ck_pos hx1]
      rfl
    · obtain ⟨m', h1⟩ := ih (k + 1) (A ++ [l[k]]) (mset (bstr l[k]) true m) (s + (l[k].length : Int)) (o ++ [(k : Int)]) (by omega) (by omega) (hasM_add hm l[k]) (by simp; omega) (by omega) (by omega)
      have e : freshL A k (l[k] :: l.drop (k + 1)) = (k :: (freshL (A ++ [l[k]]) (k + 1) (l.drop (k + 1))).1, (l[k].length : Int) + (freshL (A ++ [l[k]]) (k + 1) (l.drop (k + 1))).2) := by simp only [freshL]; rw [if_neg h]
      rw [e]
      refine ⟨m', (loopX_next ?_).trans (h1.trans ?_)⟩
      · have hb : Option.getD (mget (bstr l[k]) m) false = false := by
          have := fun h' : Option.getD (mget (bstr l[k]) m) false = true => h ((hm (bstr l[k])).1 h')
          simpa using this
        simp only [wire_Fresh.s1, cb_dec, cb_not, rd_lt hlt, hb, cb_f]
        rw [if_pos (by omega), ck_pos (by omega), ck_pos (by simp only [List.length_cons, List.length_nil]; omega), ck_in (by omega) (by omega), ck_pos hx1]
        rfl
      · simp [Int.add_assoc]
theorem fresh_eq {x y : BL} (hx : x.length ≤ 20000) (hy : y.length ≤ 20000) (sx : lenL x ≤ 2000000) (sy : lenL y ≤ 2000000) : wire_Fresh.f x y = some ((freshL x 0 y).1.map (fun i : Nat => (i : Int)), (freshL x 0 y).2, 0) := by
  unfold wire_Fresh.f
  rw [check_eq hx sx, ob_s]
  simp only [decide_true, Bool.not_true, cb_f, check_eq hy sy, ob_s]
  obtain ⟨m, h1, h2⟩ := hasLoop x hx x.length 0 [] [] (by omega) (by omega) hasM_nil
  rw [show ((0 : Nat) : Int) = 0 from rfl] at h1
  rw [List.nil_append, List.drop_zero] at h2
  rw [h1, ob_s]
  obtain ⟨m', h3⟩ := freshLoop y hy sy y.length 0 x m 0 [] (by omega) (by omega) h2 (by simp) (by omega) (by rw [List.drop_zero]; omega)
  rw [show ((0 : Nat) : Int) = 0 from rfl, List.drop_zero, Int.zero_add, List.nil_append] at h3
  rw [h3, ob_s]
theorem shareHas {l : List Int} (hg : goodS l) (hl : l.length ≤ 20000) : ∀ (n k : Nat) (b : List UInt8) (A : BL) (m : List (ByteArray × Bool)), l.length - k = n → k ≤ l.length → sumI (l.drop k) = b.length → hasM m A → ∃ m', blob_Shared.l0 l (l.length : Int) b (k : Int) m = some m' ∧ hasM m' (A ++ cutL b (l.drop k)) := by
  intro n
  induction n with
  | zero =>
    intro k b A m hn hk hs hm
    obtain rfl : k = l.length := by omega
    refine ⟨m, loopX_done ?_, by rw [List.drop_length]; simpa [cutL] using hm⟩
    simp only [blob_Shared.s0, cb_dec]
    rw [if_neg (by omega)]
  | succ n ih =>
    intro k b A m hn hk hs hm
    have hlt : k < l.length := by omega
    rw [List.drop_eq_getElem_cons hlt] at hs ⊢
    have h1 := hg l[k] (List.getElem_mem hlt)
    have h2 := sumI_pos (l := l.drop (k + 1)) (fun y hy => hg y (List.mem_of_mem_drop hy))
    simp only [sumI] at hs
    obtain ⟨m', h3, h4⟩ := ih (k + 1) (b.drop l[k].toNat) (A ++ [b.take l[k].toNat]) _ (by omega) (by omega) (by rw [List.length_drop]; omega) (hasM_add hm _)
    refine ⟨m', (loopX_next ?_).trans h3, ?_⟩
    · simp only [blob_Shared.s0, cb_dec, rd_lt hlt]
      rw [if_pos (by omega), ck_pos (by omega), ck_pos (by omega), ck_pos (by omega), ck_in (by omega) (by omega)]
      rfl
    · simp only [cutL]
      rw [List.append_assoc] at h4
      exact h4
theorem shareSum {l : List Int} (hg : goodS l) (hl : l.length ≤ 20000) {X : BL} {m : List (ByteArray × Bool)} (hm : hasM m X) : ∀ (n k : Nat) (b : List UInt8) (s : Int), l.length - k = n → k ≤ l.length → sumI (l.drop k) = b.length → 0 ≤ s → s + b.length ≤ 2000000 → blob_Shared.l1 l (l.length : Int) b s (k : Int) m = some (s + sharedL X (cutL b (l.drop k)), m) := by
  intro n
  induction n with
  | zero =>
    intro k b s hn hk hs h0 hb
    obtain rfl : k = l.length := by omega
    refine loopX_done ?_
    simp only [blob_Shared.s1, cb_dec]
    rw [if_neg (by omega), List.drop_length]
    simp [cutL, sharedL]
  | succ n ih =>
    intro k b s hn hk hs h0 hb
    have hlt : k < l.length := by omega
    rw [List.drop_eq_getElem_cons hlt] at hs ⊢
    have h1 := hg l[k] (List.getElem_mem hlt)
    have h2 := sumI_pos (l := l.drop (k + 1)) (fun y hy => hg y (List.mem_of_mem_drop hy))
    simp only [sumI] at hs
    have hlen : ((b.take l[k].toNat).length : Int) = l[k] := by rw [List.length_take]; omega
    simp only [cutL, sharedL]
    by_cases h : bstr (b.take l[k].toNat) ∈ X.map bstr
    · have h3 := ih (k + 1) (b.drop l[k].toNat) (s + l[k]) (by omega) (by omega) (by rw [List.length_drop]; omega) (by omega) (by rw [List.length_drop]; omega)
      rw [if_pos h]
      refine (loopX_next ?_).trans (h3.trans ?_)
      · have hb := (hm _).2 h
        simp only [blob_Shared.s1, cb_dec, rd_lt hlt, hb, cb_t]
        rw [if_pos (by omega), ck_pos (by omega), ck_pos (by omega), ck_in (by omega) (by omega), ck_pos (by omega), ck_in (by omega) (by omega)]
        rfl
      · rw [hlen, Int.add_assoc]
    · have h3 := ih (k + 1) (b.drop l[k].toNat) s (by omega) (by omega) (by rw [List.length_drop]; omega) (by omega) (by rw [List.length_drop]; omega)
      rw [if_neg h]
      refine (loopX_next ?_).trans (h3.trans ?_)
      · have hb : Option.getD (mget (bstr (b.take l[k].toNat)) m) false = false := by
          have := fun h' : Option.getD (mget (bstr (b.take l[k].toNat)) m) false = true => h ((hm (bstr (b.take l[k].toNat))).1 h')
          simpa using this
        simp only [blob_Shared.s1, cb_dec, rd_lt hlt, hb, cb_f]
        rw [if_pos (by omega), ck_pos (by omega), ck_pos (by omega), ck_pos (by omega), ck_in (by omega) (by omega)]
        rfl
      · rw [Int.zero_add]
end Go.Proofs.Ytljfadhmenadlaa
set_option linter.unusedVariables false
set_option linter.unusedSimpArgs false
namespace Go.Proofs.Ytljfadhmenadlaa
open Go Go.Proofs.Ytljfadhmenadlaa.Eng
theorem len_le {y : BL} {p : List UInt8} (h : p ∈ y) : (p.length : Int) ≤ lenL y := by
  induction y with
  | nil => cases h
  | cons q y ih =>
    have h1 := lenL_pos y
    simp only [lenL]
    rcases List.mem_cons.1 h with rfl | h
    · omega
    · have := ih h; omega
theorem pickLoop {y : BL} (hy : lenL y ≤ 2000000) {fr : List Nat} (hl : fr.length ≤ 20000) (hi : ∀ i ∈ fr, i < y.length) : ∀ (n k : Nat) (s : Int) (o : BL), fr.length - k = n → k ≤ fr.length → 0 ≤ s → s ≤ 2000000 * (k : Int) → o.length ≤ 20000 + k →
    top_TopPiecesOverLines.l0 y (fr.map (fun i : Nat => (i : Int))) s (k : Int) o = some (s + lenL (pickL y (fr.drop k)), o ++ pickL y (fr.drop k)) := by
  intro n
  induction n with
  | zero =>
    intro k s o hn hk h0 hs ho
    obtain rfl : k = fr.length := by omega
    refine loopX_done ?_
    simp only [top_TopPiecesOverLines.s0, cb_dec, List.length_map]
    rw [if_neg (by omega), List.drop_length]
    simp [pickL, lenL]
  | succ n ih =>
    intro k s o hn hk h0 hs ho
    have hlt : k < fr.length := by omega
    have hlt2 : k < (fr.map (fun i : Nat => (i : Int))).length := by simpa using hlt
    have hiy := hi fr[k] (List.getElem_mem hlt)
    have hlen := len_le (List.getElem_mem hiy)
    have h1 := ih (k + 1) (s + ((y[fr[k]]).length : Int)) (o ++ [y[fr[k]]]) (by omega) (by omega) (by omega) (by omega) (by simp; omega)
    have e : List.getD y fr[k] [] = y[fr[k]] := by rw [List.getD, List.getElem?_eq_getElem hiy]; rfl
    have hp : pickL y (fr[k] :: fr.drop (k + 1)) = y[fr[k]] :: pickL y (fr.drop (k + 1)) := by simp only [pickL, List.map_cons, e]
    rw [List.drop_eq_getElem_cons hlt, hp]
    refine (loopX_next ?_).trans (h1.trans ?_)
    · simp only [top_TopPiecesOverLines.s0, cb_dec, rd_lt hlt2, List.getElem_map, List.length_map, rd_lt hiy]
      rw [if_pos (by omega), ck_pos (by omega), ck_pos (by omega), ck_pos (by simp only [List.length_cons, List.length_nil]; omega), ck_pos (by omega), ck_pos (by omega), ck_in (by omega) (by omega), ck_in (by omega) (by omega)]
      rfl
    · simp [lenL, Int.add_assoc]
theorem foundEnd (y there : BL) (i k : Int) : top_TopPiecesOverLines.l2 y i true k there = some (true, there) := by
  refine loopX_done ?_
  simp only [top_TopPiecesOverLines.s2, cb_dec, Bool.not_true, cb_f]
  split <;> rfl
theorem searchLoop {y there : BL} (hl : there.length ≤ 1000000) {i : Nat} (hi : i < y.length) : ∀ (n k : Nat), there.length - k = n → (∃ t ∈ there.drop k, bstr t = bstr y[i]) → top_TopPiecesOverLines.l2 y (i : Int) false (k : Int) there = some (true, there) := by
  intro n
  induction n with
  | zero =>
    intro k hn h
    obtain ⟨t, h1, _⟩ := h
    rw [List.drop_eq_nil_of_le (by omega)] at h1
    cases h1
  | succ n ih =>
    intro k hn h
    have hlt : k < there.length := by omega
    have e1 : Int.toNat (k : Int) = k := by omega
    have e2 : List.getD there k [] = there[k] := by rw [List.getD, List.getElem?_eq_getElem hlt]; rfl
    by_cases h2 : bstr there[k] = bstr y[i]
    · refine (loopX_next ?_).trans (foundEnd y there (i : Int) ((k + 1 : Nat) : Int))
      simp only [top_TopPiecesOverLines.s2, cb_dec, Bool.not_false, cb_t, e1, e2, rd_lt hi, bytes_Equal.f, h2, decide_true, ob_s]
      rw [if_pos (by omega), ck_pos (by omega), ck_pos (by omega), ck_pos (by omega), ck_in (by omega) (by omega)]
      rfl
    · refine (loopX_next ?_).trans (ih (k + 1) (by omega) ?_)
      · simp only [top_TopPiecesOverLines.s2, cb_dec, Bool.not_false, cb_t, e1, e2, rd_lt hi, bytes_Equal.f, h2, decide_false, ob_s]
        rw [if_pos (by omega), ck_pos (by omega), ck_pos (by omega), ck_pos (by omega), ck_in (by omega) (by omega)]
        rfl
      · obtain ⟨t, h3, h4⟩ := h
        rw [List.drop_eq_getElem_cons hlt] at h3
        rcases List.mem_cons.1 h3 with rfl | h3
        · exact absurd h4 h2
        · exact ⟨t, h3, h4⟩
theorem coverLoop {y there : BL} (hy : y.length ≤ 1000000) (hl : there.length ≤ 1000000) (h : ∀ p ∈ y, bstr p ∈ there.map bstr) : ∀ (n k : Nat), y.length - k = n → k ≤ y.length → top_TopPiecesOverLines.l1 y (k : Int) there = some (.inr there) := by
  intro n
  induction n with
  | zero =>
    intro k hn hk
    refine loopX_done ?_
    simp only [top_TopPiecesOverLines.s1, cb_dec]
    rw [if_neg (by omega)]
  | succ n ih =>
    intro k hn hk
    have hlt : k < y.length := by omega
    have hs := searchLoop hl hlt there.length 0 (by omega) (by
      obtain ⟨t, h1, h2⟩ := List.mem_map.1 (h y[k] (List.getElem_mem hlt))
      exact ⟨t, h1, h2⟩)
    rw [show ((0 : Nat) : Int) = 0 from rfl] at hs
    refine (loopX_next ?_).trans (ih (k + 1) (by omega) (by omega))
    simp only [top_TopPiecesOverLines.s1, cb_dec, hs, ob_s, Bool.not_true, cb_f]
    rw [if_pos (by omega), ck_in (by omega) (by omega)]
    rfl
theorem law_TP (a b : List UInt8) (least bits most : Int) : top_TopPiecesOverLines.f a b least bits most = some true := by
  obtain ⟨r1, h1, h1n, h1z⟩ := pieces_eq a least bits most
  obtain ⟨r2, h2, h2n, h2z⟩ := pieces_eq b least bits most
  unfold top_TopPiecesOverLines.f
  rw [h1, ob_s, h2, ob_s]
  by_cases e1 : r1.2 = 0
  · by_cases e2 : r2.2 = 0
    · obtain ⟨g1, s1, l1, b1⟩ := h1z e1
      obtain ⟨g2, s2, l2, b2⟩ := h2z e2
      have hX := topCut_eq g1 s1 l1 b1
      have hY := topCut_eq g2 s2 l2 b2
      have lX : (cutL a r1.1).length ≤ 20000 := by rw [cutL_len]; exact l1
      have lY : (cutL b r2.1).length ≤ 20000 := by rw [cutL_len]; exact l2
      have sX := cutL_sum r1.1 a g1 s1
      have sY := cutL_sum r2.1 b g2 s2
      have hF := fresh_eq lX lY (by omega) (by omega)
      have hI : ∀ i ∈ (freshL (cutL a r1.1) 0 (cutL b r2.1)).1, i < (cutL b r2.1).length := fun i hi => by
        have := fresh_idx _ _ _ _ hi; omega
      have hP := pickLoop (y := cutL b r2.1) (by omega) (Nat.le_trans (fresh_len (cutL b r2.1) (cutL a r1.1) 0) lY) hI _ 0 0 (cutL a r1.1) rfl (by omega) (by omega) (by omega) (by omega)
      rw [show ((0 : Nat) : Int) = 0 from rfl, List.drop_zero, Int.zero_add] at hP
      have hM := fresh_many (cutL b r2.1) (cutL b r2.1) (cutL a r1.1) 0 rfl
      have hlen : (cutL a r1.1 ++ pickL (cutL b r2.1) (freshL (cutL a r1.1) 0 (cutL b r2.1)).1).length ≤ 1000000 := by
        have := fresh_len (cutL b r2.1) (cutL a r1.1) 0
        simp only [List.length_append, pickL, List.length_map]
        omega
      have hC := coverLoop (y := cutL b r2.1) (by omega) hlen (fresh_cover (cutL b r2.1) (cutL b r2.1) (cutL a r1.1) 0 rfl) _ 0 rfl (by omega)
      rw [show ((0 : Nat) : Int) = 0 from rfl] at hC
      obtain ⟨m, k1, k2⟩ := shareHas g1 l1 r1.1.length 0 a [] [] (by omega) (by omega) (by rw [List.drop_zero]; exact s1) hasM_nil
      rw [show ((0 : Nat) : Int) = 0 from rfl] at k1
      rw [List.nil_append, List.drop_zero] at k2
      have k3 := shareSum g2 l2 k2 r2.1.length 0 b 0 (by omega) (by omega) (by rw [List.drop_zero]; exact s2) (by omega) (by omega)
      rw [show ((0 : Nat) : Int) = 0 from rfl, List.drop_zero, Int.zero_add] at k3
      have hS : blob_Shared.f a b least bits most = some (sharedL (cutL a r1.1) (cutL b r2.1), 0) := by
        unfold blob_Shared.f
        rw [h1, ob_s]
        simp only [e1, decide_true, Bool.not_true, cb_f, h2, ob_s, e2, k1, k3]
      obtain ⟨f1, f2, f3⟩ := fresh_share (cutL a r1.1) (cutL b r2.1) (cutL a r1.1) 0 (fun s hs => hs)
      simp only [e1, e2, decide_true, Bool.not_true, cb_f, cb_t, hX, hY, hF, ob_s]
      rw [ck_pos (by omega), hP, ob_s]
      simp only [hC, ob_s, caseS_r, hS, decide_true, cb_t, hM.symm, lives_eq]
      rw [ck_in (by omega) (by omega), cb_dec, if_pos (by omega)]
    · have z2 := h2n e2
      simp only [e1, e2, decide_true, decide_false, Bool.not_true, Bool.not_false, cb_f, cb_t, z2, List.length_nil, lives_eq, ob_s]
      rfl
  · have z1 := h1n e1
    by_cases e2 : r2.2 = 0
    · simp only [e1, e2, decide_true, decide_false, Bool.not_true, Bool.not_false, cb_f, cb_t, z1, List.length_nil, lives_eq, ob_s]
      rfl
    · have z2 := h2n e2
      simp only [e1, e2, decide_true, decide_false, Bool.not_true, Bool.not_false, cb_f, cb_t, z1, z2, List.length_nil, lives_eq, ob_s]
      rfl
end Go.Proofs.Ytljfadhmenadlaa
set_option linter.unusedVariables false
set_option linter.unusedSimpArgs false
set_option maxRecDepth 100000
set_option maxHeartbeats 4000000
namespace Go.Proofs.Ytljfadhmenadlaa
open Go Go.RowKit Go.ChangeShapes Go.WideShapes Go.ChangeAt Go.Proofs.Ytljfadhmenadlaa.Eng
theorem own : ownKnob Try.prog.godebug = none := by kernel_rfl
theorem laidOut : laidOutB Try.prog = true := by kernel_rfl
theorem topPiecesOverLines_av (xs : List AV) (h : ShapeA T 6 [22,22,3,3,3] xs) : FPure Try.prog 3 xs (.v (.bool true)) :=
  law_typed (T := T) (m := 6) (ts := [22,22,3,3,3]) top_TopPiecesOverLines.ok (by kernel_rfl) (fun x hx => law_TP x.1 x.2.1 x.2.2.1 x.2.2.2.1 x.2.2.2.2) xs h
theorem topPiecesOverLines_lifted (os : Os) (started : os.Started) (H : Type) (enc : TypeId × Value → H) :
    ReturnsInHanded {} Try.checked os 3 .any (Rows.topPiecesOverLinesSpec.pre6 enc Try.prog Try.f3 Rows.topPiecesOverLinesRow.domain false) (Rows.topPiecesOverLinesSpec.post enc Try.prog Try.f3 false true false false) := by
  refine returnsInHanded_of_change_sized (C := Try.checked) own started (by kernel_rfl) Try.func3
    (ChangeSpec.witness6 (enc := enc) (C := Try.checked) false ⟨#[], #[.slice none 0 0, .slice none 0 0, .int .i64 0, .int .i64 0, .int .i64 0], []⟩ 8 (by kernel_rfl) (by kernel_rfl) (by kernel_rfl) (by kernel_rfl)) ?_
  intro W base args ds gs before hval0 hW hcnd hsz0 _
  have hW' := hW
  obtain ⟨p, q, hA0, hV, rfl, hfz, hnd⟩ := hW
  have hsz : (DataW.weightsEach Try.prog (Try.f3.params.toList ++ Rows.topPiecesOverLinesSpec.plain.varTypes Try.prog) (ds ++ gs)).all (· ≤ reachBytes) = true := hsz0
  have hA : DataW.TrodAll enc Try.prog W 0 (fun _ => true) true [22,22,3,3,3] args.toList ds p := hA0
  obtain ⟨rfl, rfl⟩ := trodVars_none hV
  have hlaw := law_calls (r := .any) (b0 := base) tabOK laidOut topPiecesOverLines_av (by decide +kernel) (by kernel_rfl) hA (fun j t v h1 h2 => hval0 j t v (by simpa using h1) (by simpa using h2)) (by rw [List.append_nil] at hsz; exact hsz)
  simp only [Array.toArray_toList] at hlaw
  refine hlaw.mono fun e W' ⟨he, bel, hback⟩ => ?_
  subst he
  obtain ⟨d1, d2, d3, d4, d5, hds⟩ : ∃ d1 d2 d3 d4 d5, ds = [d1, d2, d3, d4, d5] := by
    obtain ⟨_, _, d1, _, _, _, _, rfl, _, _, h⟩ := trodAll_cons hA
    obtain ⟨_, _, d2, _, _, _, _, rfl, _, _, h⟩ := trodAll_cons h
    obtain ⟨_, _, d3, _, _, _, _, rfl, _, _, h⟩ := trodAll_cons h
    obtain ⟨_, _, d4, _, _, _, _, rfl, _, _, h⟩ := trodAll_cons h
    obtain ⟨_, _, d5, _, _, _, _, rfl, _, _, h⟩ := trodAll_cons h
    obtain ⟨_, rfl, _⟩ := trodAll_nil h
    exact ⟨d1, d2, d3, d4, d5, rfl⟩
  subst hds
  exact ⟨_, rfl, _, _, _, [], _, [], hW', trodAll_mk1 (shut_bool Try.underlying4 _), hback, rfl, bel.frame _, fun h => by cases h⟩
theorem topPiecesOverLines_over : Rows.topPiecesOverLinesRow.holds Try.pinned (OpenSpec.ofChange Rows.topPiecesOverLinesSpec) :=
  OpenClaim.holds_of_wide 3 Try.f3 rfl rfl rfl rfl rfl rfl rfl ⟨rfl, rfl, rfl, rfl, rfl⟩ rfl rfl rfl rfl rfl (by kernel_rfl) Try.func3 (by kernel_rfl)
    (of_decide_eq_true (by kernel_rfl)) (by unfold Func.isWrapper; first | (rw [if_pos (by decide +kernel)]; kernel_rfl) | (rw [if_neg (by decide +kernel)]; exact ⟨rfl, rfl⟩))
    (fun os started H enc _ => topPiecesOverLines_lifted os started H enc)
theorem topPiecesOverLines_holds : Rows.TopPiecesOverLinesSaid := topPiecesOverLines_over
end Go.Proofs.Ytljfadhmenadlaa
