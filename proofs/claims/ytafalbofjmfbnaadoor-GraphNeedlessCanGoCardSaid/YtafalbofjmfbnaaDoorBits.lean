/-
  Plain laws over the printed functions: rows of bits, the edges without which the same is reached. No condition.
-/
import Derived.Test.YtafalbofjmfbnaaDoorWays
set_option linter.unusedVariables false
set_option linter.unusedSimpArgs false
namespace Go.Proofs.YtafalbofjmfbnaaDoor
open Go Go.Proofs.YtafalbofjmfbnaaDoor.Eng
def U64 (x : Int) : Prop := 0 ≤ x ∧ x < 18446744073709551616
theorem wrapU {n : Nat} (h : n < 18446744073709551616) : IntKind.u64.wrap (n : Int) = (n : Int) := by
 unfold IntKind.wrap
 simp only [IntKind.signed, IntKind.bits]
 simp
 omega
theorem bv_of {a : Nat} (h : a < 18446744073709551616) : (BitVec.ofInt (IntKind.bits .u64) (a : Int)).toNat = a := by
 show (BitVec.ofInt 64 (a : Int)).toNat = a
 rw [BitVec.ofInt_natCast, BitVec.toNat_ofNat]
 exact Nat.mod_eq_of_lt h
theorem orU {a b : Nat} (ha : a < 18446744073709551616) (hb : b < 18446744073709551616) :
  IntKind.u64.wrap ((BitVec.toNat (BitVec.ofInt (IntKind.bits .u64) (a : Int) ||| BitVec.ofInt (IntKind.bits .u64) (b : Int)) : Nat) : Int) = ((a ||| b : Nat) : Int) ∧ a ||| b < 18446744073709551616 := by
 have h : a ||| b < 2 ^ 64 := Nat.or_lt_two_pow (n := 64) ha hb
 rw [BitVec.toNat_or, bv_of ha, bv_of hb]
 exact ⟨wrapU h, h⟩
theorem shlU {k : Nat} (hk : k < 64) : IntKind.u64.wrap ((1 : Int) * 2 ^ min (Int.toNat (k : Int)) (IntKind.bits .u64)) = ((2 ^ k : Nat) : Int) ∧ 2 ^ k < 18446744073709551616 := by
 have h : 2 ^ k < 2 ^ 64 := Nat.pow_lt_pow_right (by decide) hk
 have e : min (Int.toNat (k : Int)) (IntKind.bits .u64) = k := by
  show min (Int.toNat (k : Int)) 64 = k
  rw [Int.toNat_natCast]; omega
 rw [e, Int.one_mul]
 have e2 : (2 : Int) ^ k = ((2 ^ k : Nat) : Int) := by norm_cast
 rw [e2]
 exact ⟨wrapU h, h⟩
theorem testU {a k : Nat} (ha : a < 18446744073709551616) (hk : k < 64) :
  decide (IntKind.u64.wrap ((BitVec.toNat (BitVec.ofInt (IntKind.bits .u64) (Int.fdiv (a : Int) (2 ^ min (Int.toNat (k : Int)) (IntKind.bits .u64))) &&& BitVec.ofInt (IntKind.bits .u64) (1 : Int)) : Nat) : Int) = (1 : Int)) = a.testBit k := by
 have e : min (Int.toNat (k : Int)) (IntKind.bits .u64) = k := by
  show min (Int.toNat (k : Int)) 64 = k
  rw [Int.toNat_natCast]; omega
 have e2 : (2 : Int) ^ k = ((2 ^ k : Nat) : Int) := by norm_cast
 have e3 : Int.fdiv (a : Int) ((2 ^ k : Nat) : Int) = ((a / 2 ^ k : Nat) : Int) := by
  rw [Int.fdiv_eq_ediv_of_nonneg _ (Int.natCast_nonneg _)]; rfl
 rw [e, e2, e3]
 have hd : a / 2 ^ k < 18446744073709551616 := Nat.lt_of_le_of_lt (Nat.div_le_self _ _) ha
 rw [BitVec.toNat_and, bv_of hd, show (1 : Int) = ((1 : Nat) : Int) from rfl, bv_of (by decide : 1 < 18446744073709551616), Nat.and_one_is_mod]
 rw [wrapU (by omega), Nat.testBit_eq_decide_div_mod_eq]
 exact decide_eq_decide.2 (by omega)
def tb (row : List Int) (t : Nat) : Bool := (row.getD (t / 64) 0).toNat.testBit (t % 64)
structure Rw (W : Nat) (row : List Int) : Prop where
 len : row.length = W
 u : ∀ w, w < W → ∃ a : Nat, row.getD w 0 = (a : Int) ∧ a < 18446744073709551616
theorem tb_set {row : List Int} {w a t : Nat} (hw : w < row.length) : tb (row.set w (a : Int)) t = if t / 64 = w then a.testBit (t % 64) else tb row t := by
 unfold tb
 rw [getD_set _ _ _ _ _ hw]
 split
 ·rw [Int.toNat_natCast]
 ·rfl
theorem Rw.set {W : Nat} {row : List Int} (h : Rw W row) {w a : Nat} (hw : w < W) (ha : a < 18446744073709551616) : Rw W (row.set w (a : Int)) := by
 refine ⟨by rw [List.length_set, h.len], fun q hq => ?_⟩
 rw [getD_set _ _ _ _ _ (by rw [h.len]; exact hw)]
 split
 ·exact ⟨a, rfl, ha⟩
 ·exact h.u q hq
theorem getD_set2 (U : List (List Int)) (i : Nat) (r : List Int) (q : Nat) (hi : i < U.length) : (U.set i r).getD q [] = if q = i then r else U.getD q [] := getD_set _ _ _ _ _ hi
theorem orLoop {N : Option (List Nd × (List (List Int) × List (List Int)))} {W i k : Nat} (hW : W ≤ 1000) (hik : k ≠ i) : ∀ (m w : Nat) (U : List (List Int)), W - w = m → w ≤ W → i < U.length → k < U.length → U.length ≤ 1000 → Rw W (U.getD i []) → Rw W (U.getD k []) →
  ∃ U', graph_Needless.l2 (i : Int) (W : Int) (k : Int) (w : Int) N U = some (N, U') ∧ U'.length = U.length ∧ (∀ q, q ≠ i → U'.getD q [] = U.getD q []) ∧ Rw W (U'.getD i []) ∧
   ∀ t, t < 64 * W → tb (U'.getD i []) t = if w ≤ t / 64 then (tb (U.getD i []) t || tb (U.getD k []) t) else tb (U.getD i []) t := by
 intro m
 induction m with
 | zero =>
  intro w U hm hw hi hk hU h1 h2
  refine ⟨U, loopX_done ?_, rfl, fun _ _ => rfl, h1, fun t ht => by rw [if_neg (by omega)]⟩
  simp only [graph_Needless.s2, cb_dec]
  rw [if_neg (by omega)]
 | succ m ih =>
  intro w U hm hw hi hk hU h1 h2
  have hwl : w < W := by omega
  obtain ⟨a, a1, a2⟩ := h1.u w hwl
  obtain ⟨b, b1, b2⟩ := h2.u w hwl
  obtain ⟨o1, o2⟩ := orU a2 b2
  have hg : ∀ q, (U.set i ((U.getD i []).set w ((a ||| b : Nat) : Int))).getD q [] = if q = i then (U.getD i []).set w ((a ||| b : Nat) : Int) else U.getD q [] := fun q => getD_set2 _ _ _ _ hi
  have hl1 := h1.len
  have hl2 := h2.len
  obtain ⟨U', u1, u2, u3, u4, u5⟩ := ih (w + 1) (U.set i ((U.getD i []).set w ((a ||| b : Nat) : Int))) (by omega) (by omega) (by simpa using hi) (by simpa using hk) (by simpa using hU) (by rw [hg, if_pos rfl]; exact h1.set hwl o2) (by rw [hg, if_neg hik]; exact h2)
  refine ⟨U', (loopX_next ?_).trans u1, by simpa using u2, fun q hq => by rw [u3 q hq, hg, if_neg hq], u4, fun t ht => ?_⟩
  ·simp only [graph_Needless.s2, cb_dec, Int.toNat_natCast, a1, b1, o1]
   rw [if_pos (by omega), ck_pos (by omega), ck_pos (by omega), ck_pos (by omega), ck_pos (by omega), ck_pos (by omega), ck_pos (by omega), ck_pos (by omega), ck_pos (by omega), ck_in (by omega) (by omega)]
   rfl
  ·rw [u5 t ht, hg, if_pos rfl, hg, if_neg hik, tb_set (by rw [hl1]; exact hwl)]
   by_cases hc : t / 64 = w
   ·rw [if_neg (by omega), if_pos hc, if_pos (by omega)]
    unfold tb
    rw [hc, a1, b1, Int.toNat_natCast, Int.toNat_natCast, Nat.testBit_or]
   ·rw [if_neg hc]
    by_cases hc2 : w + 1 ≤ t / 64
    ·rw [if_pos hc2, if_pos (by omega)]
    ·rw [if_neg hc2, if_neg (by omega)]
section
variable {g : List Nd}
theorem rowLoop (h : Right g) {W i : Nat} (hW : g.length / 64 + 1 = W) (hi : i < g.length) (hno : (i : Int) ∉ D g i) : ∀ (m j : Nat) (U : List (List Int)), (D g i).length - j = m → j ≤ (D g i).length → U.length = g.length → Rw W (U.getD i []) → (∀ k : Nat, (k : Int) ∈ D g i → Rw W (U.getD k [])) →
  (∀ t, t < 64 * W → (tb (U.getD i []) t = true ↔ ∃ k : Nat, (k : Int) ∈ (D g i).take j ∧ (t = k ∨ tb (U.getD k []) t = true))) →
  ∃ U', graph_Needless.l1 (i : Int) (D g i) ((D g i).length : Int) (j : Int) (net g) U = some (net g, U') ∧ U'.length = g.length ∧ (∀ q, q ≠ i → U'.getD q [] = U.getD q []) ∧ Rw W (U'.getD i []) ∧
   ∀ t, t < 64 * W → (tb (U'.getD i []) t = true ↔ ∃ k : Nat, (k : Int) ∈ D g i ∧ (t = k ∨ tb (U.getD k []) t = true)) := by
 have hgl := h.len
 have hDl := D_len h hi
 intro m
 induction m with
 | zero =>
  intro j U hm hj hU h1 h2 h3
  rw [List.take_of_length_le (by clear h3; omega)] at h3
  refine ⟨U, loopX_done ?_, hU, fun _ _ => rfl, h1, h3⟩
  simp only [graph_Needless.s1, cb_dec]
  rw [if_neg (by clear h3; omega)]
 | succ m ih =>
  intro j U hm hj hU h1 h2 h3
  have hlt : j < (D g i).length := by clear h3; omega
  have hm1 : (D g i).length - (j + 1) = m := by clear h3; omega
  have hj1 : j + 1 ≤ (D g i).length := hlt
  obtain ⟨k, k1, k2⟩ := h.D_mem hi (List.getElem_mem hlt)
  have hkm : (k : Int) ∈ D g i := by rw [← k1]; exact List.getElem_mem hlt
  have hki : k ≠ i := fun e => hno (e ▸ hkm)
  have hk64 : k / 64 < W := by clear h3; omega
  have hkm64 : k % 64 < 64 := Nat.mod_lt _ (by decide)
  obtain ⟨a, a1, a2⟩ := h1.u (k / 64) hk64
  obtain ⟨s1, s2⟩ := shlU hkm64
  obtain ⟨o1, o2⟩ := orU a2 s2
  have hl1 := h1.len
  have hiU : i < U.length := by clear h3; omega
  have hkU : k < U.length := by clear h3; omega
  have hg : ∀ q, (U.set i ((U.getD i []).set (k / 64) ((a ||| 2 ^ (k % 64) : Nat) : Int))).getD q [] = if q = i then (U.getD i []).set (k / 64) ((a ||| 2 ^ (k % 64) : Nat) : Int) else U.getD q [] := fun q => getD_set2 _ _ _ _ hiU
  have hrk := h2 k hkm
  have hlk := hrk.len
  obtain ⟨U1, u1, u2, u3, u4, u5⟩ := orLoop (N := net g) (W := W) (i := i) (k := k) (by clear h3; omega) hki W 0 (U.set i ((U.getD i []).set (k / 64) ((a ||| 2 ^ (k % 64) : Nat) : Int))) (by clear h3; omega) (Nat.zero_le _) (by simpa using hiU) (by simpa using hkU) (by rw [List.length_set]; clear h3; omega) (by rw [hg, if_pos rfl]; exact h1.set hk64 o2) (by rw [hg, if_neg hki]; exact hrk)
  rw [show ((0 : Nat) : Int) = 0 from rfl] at u1
  have hbit : ∀ t, t < 64 * W → (tb (U1.getD i []) t = (decide (t = k) || (tb (U.getD i []) t || tb (U.getD k []) t))) := fun t ht => by
   rw [u5 t ht, if_pos (Nat.zero_le _), hg, if_pos rfl, hg, if_neg hki, tb_set (by rw [hl1]; exact hk64)]
   by_cases hc : t / 64 = k / 64
   ·rw [if_pos hc, Nat.testBit_or, Nat.testBit_two_pow]
    have e1 : tb (U.getD i []) t = a.testBit (t % 64) := by unfold tb; rw [hc, a1, Int.toNat_natCast]
    rw [e1]
    have e2 : decide (k % 64 = t % 64) = decide (t = k) := decide_eq_decide.2 (by clear h3; omega)
    rw [e2]
    cases a.testBit (t % 64) <;> cases decide (t = k) <;> cases tb (U.getD k []) t <;> rfl
   ·rw [if_neg hc]
    have e2 : decide (t = k) = false := decide_eq_false (fun e => hc (by rw [e]))
    rw [e2, Bool.false_or]
  obtain ⟨U', v1, v2, v3, v4, v5⟩ := ih (j + 1) U1 hm1 hj1 (by rw [u2, List.length_set]; exact hU) u4 (fun q hq => by
    have hqi : q ≠ i := fun e => hno (e ▸ hq)
    rw [u3 q hqi, hg, if_neg hqi]; exact h2 q hq) (fun t ht => by
    rw [hbit t ht, Bool.or_eq_true, Bool.or_eq_true, decide_eq_true_eq, h3 t ht]
    have hq : ∀ q : Nat, (q : Int) ∈ D g i → U1.getD q [] = U.getD q [] := fun q hq => by
     have hqi : q ≠ i := fun e => hno (e ▸ hq)
     rw [u3 q hqi, hg, if_neg hqi]
    have htk : ∀ q : Nat, (q : Int) ∈ (D g i).take (j + 1) ↔ (q : Int) ∈ (D g i).take j ∨ q = k := fun q => by
     rw [List.take_succ_eq_append_getElem hlt, List.mem_append, List.mem_singleton, k1]
     exact or_congr_right (by clear h3; omega)
    constructor
    ·rintro (e | ⟨q, q1, q2⟩ | e)
     ·exact ⟨k, (htk k).2 (.inr rfl), .inl e⟩
     ·exact ⟨q, (htk q).2 (.inl q1), by rw [hq q (List.mem_of_mem_take q1)]; exact q2⟩
     ·exact ⟨k, (htk k).2 (.inr rfl), .inr (by rw [hq k hkm]; exact e)⟩
    ·rintro ⟨q, q1, q2⟩
     rcases (htk q).1 q1 with q1 | e
     ·exact .inr (.inl ⟨q, q1, by rw [hq q (List.mem_of_mem_take q1)] at q2; exact q2⟩)
     ·subst e
      rcases q2 with q2 | q2
      ·exact .inl q2
      ·exact .inr (.inr (by rw [hq q hkm] at q2; exact q2)))
  refine ⟨U', (loopX_next ?_).trans v1, v2, fun q hq => by rw [v3 q hq, u3 q hq, hg, if_neg hq], v4, fun t ht => ?_⟩
  ·have hkk : (U.set i ((U.getD i []).set (k / 64) ((a ||| 2 ^ (k % 64) : Nat) : Int))).getD k [] = U.getD k [] := by rw [hg, if_neg hki]
   have e64 : ((k : Int) / 64) = ((k / 64 : Nat) : Int) := rfl
   have em : Int.tmod (k : Int) 64 = ((k % 64 : Nat) : Int) := rfl
   clear h3
   simp only [graph_Needless.s1, cb_dec, rd_lt hlt, k1, e64, em, Int.toNat_natCast, a1]
   rw [Int.toNat_natCast] at s1
   simp only [s1, o1, hkk, List.length_set, hlk]
   rw [if_pos (by omega), ck_pos (by omega), ck_pos (by omega), ck_pos (by omega), ck_pos (by omega), ck_pos (by omega), ck_pos (by omega), ck_pos (by omega), ck_pos (by omega), ck_pos (by omega), ck_pos (by omega), ck_pos (by omega), ck_pos (by omega), u1, ob_s, ck_in (by omega) (by omega)]
   rfl
  ·rw [v5 t ht]
   have hq : ∀ q : Nat, (q : Int) ∈ D g i → U1.getD q [] = U.getD q [] := fun q hq => by
    have hqi : q ≠ i := fun e => hno (e ▸ hq)
    rw [u3 q hqi, hg, if_neg hqi]
   constructor
   ·rintro ⟨q, q1, q2⟩; exact ⟨q, q1, by rw [hq q q1] at q2; exact q2⟩
   ·rintro ⟨q, q1, q2⟩; exact ⟨q, q1, by rw [hq q q1]; exact q2⟩
end
end Go.Proofs.YtafalbofjmfbnaaDoor
set_option linter.unusedVariables false
set_option linter.unusedSimpArgs false
namespace Go.Proofs.YtafalbofjmfbnaaDoor
open Go Go.Proofs.YtafalbofjmfbnaaDoor.Eng
def Rch (g : List Nd) (i t : Nat) : Prop := ∃ m, Go.Proofs.YtafalbofjmfbnaaDoor.Eng.Way (Ed g) i t (m + 1)
theorem rch_iff {g : List Nd} {i t : Nat} : Rch g i t ↔ ∃ k : Nat, Ed g i k ∧ (t = k ∨ Rch g k t) := by
 constructor
 ·rintro ⟨m, hm⟩
  obtain ⟨k, k1, k2⟩ := hm.head
  refine ⟨k, k1, ?_⟩
  cases m with
  | zero => cases k2; exact .inl rfl
  | succ m => exact .inr ⟨m, k2⟩
 ·rintro ⟨k, k1, e | ⟨m, hm⟩⟩
  ·subst e; exact ⟨0, .one k1⟩
  ·exact ⟨m + 1, .cons k1 hm⟩
def Nl (g : List Nd) (i k : Nat) : Prop := ∃ d, Ed g i d ∧ Rch g d k
section
variable {g : List Nd}
structure Und (g : List Nd) (U : List (List Int)) : Prop where
 len : U.length = g.length
 row : ∀ k, k < g.length → Rw (g.length / 64 + 1) (U.getD k [])
 bit : ∀ k t, k < g.length → t < 64 * (g.length / 64 + 1) → (tb (U.getD k []) t = true ↔ Rch g k t)
theorem underLoop (h : Right g) {L : List Nat} (ho : Ord g L) (hl : L.length = g.length) : ∀ (n p : Nat) (U : List (List Int)), L.length - p = n → p ≤ L.length → U.length = g.length →
  (∀ k ∈ L.take p, Rw (g.length / 64 + 1) (U.getD k []) ∧ ∀ t, t < 64 * (g.length / 64 + 1) → (tb (U.getD k []) t = true ↔ Rch g k t)) →
  ∃ U', graph_Needless.l0 g (ints L) ((ints L).length : Int) (p : Int) (net g) U = some (net g, U') ∧ Und g U' := by
 have hgl := h.len
 have hdl : (depsA g).length = g.length := by simp [depsA]
 intro n
 induction n with
 | zero =>
  intro p U hn hp hU hr
  rw [List.take_of_length_le (by omega)] at hr
  refine ⟨U, loopX_done ?_, hU, fun k hk => (hr k (ho.all hl hk)).1, fun k t hk ht => (hr k (ho.all hl hk)).2 t ht⟩
  simp only [graph_Needless.s0, cb_dec, List.length_map]
  rw [if_neg (by omega)]
 | succ n ih =>
  intro p U hn hp hU hr
  have hlt : p < L.length := by omega
  have hi := ho.lt _ (List.getElem_mem hlt)
  have hiU : L[p] < U.length := by omega
  have hno : ((L[p] : Nat) : Int) ∉ D g L[p] := fun hm => ho.noloop h hl L[p] 0 hi (.one ⟨hi, hm⟩)
  have hg : ∀ q, (U.set L[p] (List.replicate (g.length / 64 + 1) 0)).getD q [] = if q = L[p] then List.replicate (g.length / 64 + 1) 0 else U.getD q [] := fun q => getD_set2 _ _ _ _ hiU
  have hdep : ∀ k : Nat, (k : Int) ∈ D g L[p] → k ∈ L.take p := fun k hk => ho.dep p hlt k ⟨hi, hk⟩
  have hkp : ∀ k : Nat, k ∈ L.take p → k ≠ L[p] := fun k hk e => by
   obtain ⟨q, hq, hqe⟩ := List.getElem_of_mem hk
   have hqp : q < p := by have := hq; simp at this; omega
   rw [List.getElem_take] at hqe
   have := nodup_get ho.nodup (by omega : q < L.length) hlt (by rw [hqe, e])
   omega
  have hrep : ∀ w, w < g.length / 64 + 1 → (List.replicate (g.length / 64 + 1) (0 : Int)).getD w 0 = 0 := fun w hw => by
   rw [List.getD, List.getElem?_replicate, if_pos hw]; rfl
  obtain ⟨U', u1, u2, u3, u4, u5⟩ := rowLoop h rfl hi hno _ 0 (U.set L[p] (List.replicate (g.length / 64 + 1) 0)) rfl (Nat.zero_le _) (by simpa using hU) (by
   rw [hg, if_pos rfl]
   exact ⟨by simp, fun w hw => ⟨0, hrep w hw, by decide⟩⟩) (fun k hk => by
   rw [hg, if_neg (hkp k (hdep k hk))]; exact (hr k (hdep k hk)).1) (fun t ht => by
   rw [hg, if_pos rfl]
   constructor
   ·intro hb
    unfold tb at hb
    rw [hrep _ (by omega)] at hb
    simp at hb
   ·rintro ⟨k, k1, _⟩; simp at k1)
  rw [show ((0 : Nat) : Int) = 0 from rfl] at u1
  obtain ⟨U2, v1, v2⟩ := ih (p + 1) U' (by omega) (by omega) u2 (fun k hk => by
   rw [List.take_succ_eq_append_getElem hlt, List.mem_append, List.mem_singleton] at hk
   rcases hk with hk | hk
   ·rw [u3 k (hkp k hk), hg, if_neg (hkp k hk)]
    exact hr k hk
   ·rw [hk]
    refine ⟨u4, fun t ht => ?_⟩
    rw [u5 t ht, rch_iff]
    constructor
    ·rintro ⟨k, k1, k2⟩
     refine ⟨k, ⟨hi, k1⟩, k2.imp (fun e => e) fun e => ?_⟩
     rw [hg, if_neg (hkp k (hdep k k1))] at e
     exact ((hr k (hdep k k1)).2 t ht).1 e
    ·rintro ⟨k, ⟨_, k1⟩, k2⟩
     refine ⟨k, k1, k2.imp (fun e => e) fun e => ?_⟩
     rw [hg, if_neg (hkp k (hdep k k1))]
     exact ((hr k (hdep k k1)).2 t ht).2 e)
  refine ⟨U2, (loopX_next ?_).trans v1, v2⟩
  have hil : p < (ints L).length := by simpa using hlt
  have e : rd (0 : Int) (ints L) (p : Int) = (L[p] : Int) := by rw [rd_lt hil]; simp [ints]
  have ew : ((g.length : Int) / 64 + 1) = ((g.length / 64 + 1 : Nat) : Int) := rfl
  simp only [graph_Needless.s0, cb_dec, e, ew, Option.isSome_some, Option.getD_some, ck_tr, Int.toNat_natCast, deps_rd hi, u1, ob_s, List.length_map]
  rw [if_pos (by omega), ck_pos (by omega), ck_pos (by omega), ck_in (by omega) (by omega), ck_pos (by omega), ck_pos (by omega), ck_pos (by omega), ck_pos (by omega), ck_in (by omega) (by omega)]
  rfl
theorem ask_eq {U : List (List Int)} (hU : Und g U) (hgl : g.length ≤ 1000) {d t : Nat} (hd : d < g.length) (ht : t < g.length) : graph_Needless_1_1.f (d : Int) U (t : Int) = some (tb (U.getD d []) t) := by
 have hl := hU.len
 have hrw := hU.row d hd
 have hrl := hrw.len
 have hdU : d < U.length := by omega
 have er : rd ([] : List Int) U (d : Int) = U.getD d [] := by rw [rd_lt hdU]; simp [List.getD, hdU]
 obtain ⟨a, a1, a2⟩ := hrw.u (t / 64) (by omega)
 have e64 : ((t : Int) / 64) = ((t / 64 : Nat) : Int) := rfl
 have em : Int.tmod (t : Int) 64 = ((t % 64 : Nat) : Int) := rfl
 have ew : rd (0 : Int) (U.getD d []) ((t / 64 : Nat) : Int) = (a : Int) := by rw [d_rd (by omega)]; exact a1
 unfold graph_Needless_1_1.f
 simp only [er, e64, em, ew, testU a2 (Nat.mod_lt t (by decide : 0 < 64))]
 rw [ck_pos (by omega), ck_pos (by omega), ck_pos (by omega), ck_pos (by omega)]
 unfold tb
 rw [a1, Int.toNat_natCast]
theorem contF (h : Right g) {U : List (List Int)} (hU : Und g U) {i t : Nat} (hi : i < g.length) (ht : t < g.length) : ∃ b : Bool, slices_ContainsFunc_int_int_f90.f (D g i) (U, (t : Int)) = some b ∧ (b = true ↔ Nl g i t) := by
 have hgl := h.len
 have hDl := D_len h hi
 have go : ∀ (n j : Nat), (D g i).length - j = n → j ≤ (D g i).length → (∀ d : Nat, (d : Int) ∈ (D g i).take j → tb (U.getD d []) t = false) →
   ∃ r, slices_IndexFunc_int_int_f90.l0 (D g i) (U, (t : Int)) ((D g i).length : Int) (j : Int) = some r ∧ ((r = .inr () ∧ ∀ d : Nat, (d : Int) ∈ D g i → tb (U.getD d []) t = false) ∨ ∃ q d : Nat, r = .inl (q : Int) ∧ (d : Int) ∈ D g i ∧ tb (U.getD d []) t = true) := by
  intro n
  induction n with
  | zero =>
   intro j hn hj hb
   rw [List.take_of_length_le (by omega)] at hb
   refine ⟨.inr (), loopX_done ?_, .inl ⟨rfl, hb⟩⟩
   simp only [slices_IndexFunc_int_int_f90.s0, cb_dec]
   rw [if_neg (by omega)]
  | succ n ih =>
   intro j hn hj hb
   have hlt : j < (D g i).length := by omega
   obtain ⟨d, d1, d2⟩ := h.D_mem hi (List.getElem_mem hlt)
   have hdm : (d : Int) ∈ D g i := by rw [← d1]; exact List.getElem_mem hlt
   have ha := ask_eq hU hgl d2 ht
   cases hv : tb (U.getD d []) t with
   | true =>
    refine ⟨.inl (j : Int), loopX_done ?_, .inr ⟨j, d, rfl, hdm, hv⟩⟩
    simp only [slices_IndexFunc_int_int_f90.s0, cb_dec, rd_lt hlt, d1, ha, ob_s, hv, cb_t]
    rw [if_pos (by omega), ck_pos (by omega)]
   | false =>
    obtain ⟨r, r1, r2⟩ := ih (j + 1) (by omega) (by omega) (fun q hq => by
     rw [List.take_succ_eq_append_getElem hlt, List.mem_append, List.mem_singleton, d1] at hq
     rcases hq with hq | hq
     ·exact hb q hq
     ·have : q = d := by omega
      rw [this]; exact hv)
    refine ⟨r, (loopX_next ?_).trans r1, r2⟩
    simp only [slices_IndexFunc_int_int_f90.s0, cb_dec, rd_lt hlt, d1, ha, ob_s, hv, cb_f]
    rw [if_pos (by omega), ck_pos (by omega), ck_in (by omega) (by omega)]
    rfl
 obtain ⟨r, r1, r2⟩ := go _ 0 rfl (Nat.zero_le _) (fun d hd => by simp at hd)
 rw [show ((0 : Nat) : Int) = 0 from rfl] at r1
 have hbit : ∀ d : Nat, (d : Int) ∈ D g i → (tb (U.getD d []) t = true ↔ Rch g d t) := fun d hd => hU.bit d t (h.ed_lt ⟨hi, hd⟩).2 (by omega)
 unfold slices_ContainsFunc_int_int_f90.f slices_IndexFunc_int_int_f90.f
 simp only [r1, ob_s]
 rcases r2 with ⟨e, hno⟩ | ⟨q, d, e, hd, hv⟩
 ·rw [e]
  refine ⟨false, rfl, fun h => (by cases h), fun ⟨d, d1, d2⟩ => ?_⟩
  have := hno d d1.2
  rw [(hbit d d1.2).2 d2] at this
  exact this.symm
 ·rw [e]
  refine ⟨true, ?_, fun _ => ⟨d, ⟨hi, hd⟩, (hbit d hd).1 hv⟩, fun _ => rfl⟩
  simp only [caseS_l, ob_s]
  rw [decide_eq_true (by omega)]
theorem isNl (h : Right g) {U : List (List Int)} (hU : Und g U) {i t : Nat} (hi : i < g.length) (ht : t < g.length) : ∃ b : Bool, graph_Needless_1.f (i : Int) (t : Int) (net g) U = some b ∧ (b = true ↔ Nl g i t) := by
 obtain ⟨b, b1, b2⟩ := contF h hU hi ht
 have hdl : (depsA g).length = g.length := by simp [depsA]
 refine ⟨b, ?_, b2⟩
 unfold graph_Needless_1.f
 simp only [Option.isSome_some, Option.getD_some, ck_tr, deps_rd hi, b1, ob_s]
 rw [ck_pos (by omega)]
theorem edgeIn (h : Right g) {U : List (List Int)} (hU : Und g U) {i : Nat} (hi : i < g.length) : ∀ (n j : Nat) (o : List (ByteArray × ByteArray)), (D g i).length - j = n → j ≤ (D g i).length → o.length ≤ 400000 + j →
  ∃ o', graph_net_edges_f88.l1 (net g) (net g, U) (i : Int) (D g i) ((D g i).length : Int) (j : Int) o = some o' ∧ o'.length ≤ o.length + n ∧ ∀ e, e ∈ o' ↔ e ∈ o ∨ ∃ k : Nat, (k : Int) ∈ (D g i).drop j ∧ Nl g i k ∧ e = (labN g i, labN g k) := by
 have hgl := h.len
 have hDl := D_len h hi
 intro n
 induction n with
 | zero =>
  intro j o hn hj ho
  refine ⟨o, loopX_done ?_, by omega, fun e => ?_⟩
  ·simp only [graph_net_edges_f88.s1, cb_dec]
   rw [if_neg (by omega)]
  ·rw [List.drop_eq_nil_of_le (by omega)]
   exact ⟨.inl, fun h => h.elim (fun h => h) fun ⟨k, k1, _⟩ => by cases k1⟩
 | succ n ih =>
  intro j o hn hj ho
  have hlt : j < (D g i).length := by omega
  obtain ⟨k, k1, k2⟩ := h.D_mem hi (List.getElem_mem hlt)
  obtain ⟨b, b1, b2⟩ := isNl h hU hi k2
  have hdr : ∀ q : Nat, (q : Int) ∈ (D g i).drop j ↔ q = k ∨ (q : Int) ∈ (D g i).drop (j + 1) := fun q => by
   rw [List.drop_eq_getElem_cons hlt, List.mem_cons, k1]
   exact or_congr_left (by omega)
  cases b with
  | true =>
   obtain ⟨o', o1, o2, o3⟩ := ih (j + 1) (o ++ [(labN g i, labN g k)]) (by omega) (by omega) (by simp; omega)
   refine ⟨o', (loopX_next ?_).trans o1, by simp at o2; omega, fun e => ?_⟩
   ·simp only [graph_net_edges_f88.s1, cb_dec, rd_lt hlt, k1, b1, ob_s, cb_t, Option.isSome_some, Option.getD_some, ck_tr, rd_lt hi, rd_lt k2]
    rw [if_pos (by omega), ck_pos (by omega), ck_pos (by omega), ck_pos (by omega), ck_pos (by simp only [List.length_cons, List.length_nil]; omega), ck_in (by omega) (by omega), labN_get hi, labN_get k2]
    rfl
   ·rw [o3, List.mem_append, List.mem_singleton]
    constructor
    ·rintro ((h1 | h1) | ⟨q, q1, q2, q3⟩)
     ·exact .inl h1
     ·exact .inr ⟨k, (hdr k).2 (.inl rfl), b2.1 rfl, h1⟩
     ·exact .inr ⟨q, (hdr q).2 (.inr q1), q2, q3⟩
    ·rintro (h1 | ⟨q, q1, q2, q3⟩)
     ·exact .inl (.inl h1)
     ·rcases (hdr q).1 q1 with q1 | q1
      ·subst q1; exact .inl (.inr q3)
      ·exact .inr ⟨q, q1, q2, q3⟩
  | false =>
   obtain ⟨o', o1, o2, o3⟩ := ih (j + 1) o (by omega) (by omega) (by omega)
   refine ⟨o', (loopX_next ?_).trans o1, by omega, fun e => ?_⟩
   ·simp only [graph_net_edges_f88.s1, cb_dec, rd_lt hlt, k1, b1, ob_s, cb_f]
    rw [if_pos (by omega), ck_pos (by omega), ck_in (by omega) (by omega)]
    rfl
   ·rw [o3]
    constructor
    ·rintro (h1 | ⟨q, q1, q2, q3⟩)
     ·exact .inl h1
     ·exact .inr ⟨q, (hdr q).2 (.inr q1), q2, q3⟩
    ·rintro (h1 | ⟨q, q1, q2, q3⟩)
     ·exact .inl h1
     ·rcases (hdr q).1 q1 with q1 | q1
      ·subst q1; exact absurd (b2.2 q2) (by decide)
      ·exact .inr ⟨q, q1, q2, q3⟩
theorem edgeOut (h : Right g) {U : List (List Int)} (hU : Und g U) : ∀ (n i : Nat) (o : List (ByteArray × ByteArray)), g.length - i = n → i ≤ g.length → o.length ≤ 300 * i →
  ∃ o', graph_net_edges_f88.l0 (net g) (net g, U) (depsA g) ((depsA g).length : Int) (i : Int) o = some o' ∧ o'.length ≤ 300 * g.length ∧ ∀ e, e ∈ o' ↔ e ∈ o ∨ ∃ q k : Nat, i ≤ q ∧ Ed g q k ∧ Nl g q k ∧ e = (labN g q, labN g k) := by
 have hgl := h.len
 have hdl : (depsA g).length = g.length := by simp [depsA]
 intro n
 induction n with
 | zero =>
  intro i o hn hi ho
  refine ⟨o, loopX_done ?_, by omega, fun e => ⟨.inl, fun h' => h'.elim (fun h => h) fun ⟨q, k, q1, q2, _⟩ => by have := q2.1; omega⟩⟩
  simp only [graph_net_edges_f88.s0, cb_dec]
  rw [if_neg (by omega)]
 | succ n ih =>
  intro i o hn hi ho
  have hlt : i < g.length := by omega
  have hDl := D_len h hlt
  obtain ⟨o1, a1, a2, a3⟩ := edgeIn h hU hlt _ 0 o rfl (Nat.zero_le _) (by omega)
  rw [show ((0 : Nat) : Int) = 0 from rfl] at a1
  obtain ⟨o2, b1, b2, b3⟩ := ih (i + 1) o1 (by omega) (by omega) (by omega)
  refine ⟨o2, (loopX_next ?_).trans b1, b2, fun e => ?_⟩
  ·simp only [graph_net_edges_f88.s0, cb_dec, deps_rd hlt, a1, ob_s]
   rw [if_pos (by omega), ck_pos (by omega), ck_in (by omega) (by omega)]
   rfl
  ·rw [b3, a3, List.drop_zero]
   constructor
   ·rintro ((h1 | ⟨k, k1, k2, k3⟩) | ⟨q, k, q1, q2⟩)
    ·exact .inl h1
    ·exact .inr ⟨i, k, Nat.le_refl _, ⟨hlt, k1⟩, k2, k3⟩
    ·exact .inr ⟨q, k, by omega, q2⟩
   ·rintro (h1 | ⟨q, k, q1, q2, q3⟩)
    ·exact .inl (.inl h1)
    ·by_cases e : q = i
     ·subst e; exact .inl (.inr ⟨k, q2.2, q3⟩)
     ·exact .inr ⟨q, k, by omega, q2, q3⟩
theorem Needless_ok (h : Right g) {L : List Nat} (ho : Ord g L) (hl : L.length = g.length) (ht : graph_tree.f g = some (net g, (ints L, 0))) : ∃ x, graph_Needless.f g = some (x, 0) ∧ x.length ≤ 300000 ∧ ∀ e, e ∈ x ↔ ∃ q k : Nat, Ed g q k ∧ Nl g q k ∧ e = (labN g q, labN g k) := by
 have hgl := h.len
 obtain ⟨U, u1, u2⟩ := underLoop h ho hl L.length 0 (List.replicate g.length []) (by omega) (by omega) (by simp) (fun k hk => by simp at hk)
 obtain ⟨x, x1, x2, x3⟩ := edgeOut h u2 g.length 0 [] (by omega) (by omega) (by simp)
 rw [show ((0 : Nat) : Int) = 0 from rfl] at u1 x1
 refine ⟨x, ?_, by omega, fun e => ?_⟩
 ·unfold graph_Needless.f
  rw [ht]
  simp only [ob_s, cb_not, cb_dec, if_true, Int.toNat_natCast, u1]
  rw [ck_pos (by omega)]
  unfold graph_net_edges_f88.f
  simp only [Option.isSome_some, Option.getD_some, ck_tr, x1, ob_s]
 ·rw [x3]
  constructor
  ·rintro (h1 | ⟨q, k, _, q2⟩)
   ·cases h1
   ·exact ⟨q, k, q2⟩
  ·rintro ⟨q, k, q2⟩
   exact .inr ⟨q, k, Nat.zero_le _, q2⟩
end
end Go.Proofs.YtafalbofjmfbnaaDoor
set_option linter.unusedVariables false
set_option linter.unusedSimpArgs false
namespace Go.Proofs.YtafalbofjmfbnaaDoor
open Go Go.Proofs.YtafalbofjmfbnaaDoor.Eng
theorem beqB (a b : ByteArray) : (a == b) = decide (a = b) := by
 have : (a == b) = (a.data == b.data) := rfl
 rw [this]
 by_cases h : a = b
 ·subst h; simp
 ·have : a.data ≠ b.data := fun e => h (ByteArray.ext e)
  simp [h, this]
theorem eqS_dec (a b : ByteArray) : eqS a b = decide (a = b) := beqB a b
noncomputable def keepE (x : List (ByteArray × ByteArray)) (a s : ByteArray) : Bool := @decide ((a, s) ∉ x) (Classical.propDecidable _)
theorem keepE_iff {x : List (ByteArray × ByteArray)} {a s : ByteArray} : keepE x a s = true ↔ (a, s) ∉ x := by
 unfold keepE
 exact @decide_eq_true_iff _ (Classical.propDecidable _)
theorem contE {l : List (ByteArray × ByteArray)} (hl : l.length ≤ 1000000000) (x : ByteArray × ByteArray) : ∃ b : Bool, slices_Contains_api_Edge_api_Edge.f l x = some b ∧ (b = true ↔ x ∈ l) := by
 have go : ∀ (n k : Nat), l.length - k = n → (∀ j : Nat, ∀ h : j < l.length, j < k → l[j] ≠ x) → ∃ r, slices_Index_api_Edge_api_Edge.l0 l x (l.length : Int) (k : Int) = some r ∧ ((r = .inr () ∧ x ∉ l) ∨ ∃ i : Nat, r = .inl (i : Int) ∧ x ∈ l) := by
  intro n
  induction n with
  | zero =>
   intro k hn hb
   refine ⟨.inr (), loopX_done ?_, .inl ⟨rfl, fun hm => ?_⟩⟩
   ·simp only [slices_Index_api_Edge_api_Edge.s0, cb_dec]
    rw [if_neg (by omega)]
   ·obtain ⟨j, hj, he⟩ := List.getElem_of_mem hm
    exact hb j hj (by omega) he
  | succ n ih =>
   intro k hn hb
   have hlt : k < l.length := by omega
   have hc : ((eqS x.1 l[k].1) && ((eqS x.2 l[k].2) && true)) = decide (x = l[k]) := by
    rw [eqS_dec, eqS_dec, Bool.and_true]
    by_cases e : x = l[k]
    ·rw [decide_eq_true e, e]; simp
    ·rw [decide_eq_false e]
     by_cases e1 : x.1 = l[k].1
     ·by_cases e2 : x.2 = l[k].2
      ·exact absurd (Prod.ext e1 e2) e
      ·rw [decide_eq_false e2, Bool.and_false]
     ·rw [decide_eq_false e1, Bool.false_and]
   by_cases e : x = l[k]
   ·refine ⟨.inl (k : Int), loopX_done ?_, .inr ⟨k, rfl, e ▸ List.getElem_mem hlt⟩⟩
    simp only [slices_Index_api_Edge_api_Edge.s0, rd_lt hlt, hc, cb_dec]
    rw [if_pos (by omega), ck_pos (by omega), if_pos e]
   ·obtain ⟨r, h1, h2⟩ := ih (k + 1) (by omega) (fun j hj hjk => by
     rcases Nat.lt_or_ge j k with h | h
     ·exact hb j hj h
     ·have : j = k := by omega
      subst this
      exact fun h => e h.symm)
    refine ⟨r, (loopX_next ?_).trans h1, h2⟩
    simp only [slices_Index_api_Edge_api_Edge.s0, rd_lt hlt, hc, cb_dec]
    rw [if_pos (by omega), ck_pos (by omega), if_neg e, ck_in (by omega) (by omega)]
    rfl
 obtain ⟨r, h1, h2⟩ := go l.length 0 (by omega) (fun j _ hj => absurd hj (Nat.not_lt_zero _))
 rw [show ((0 : Nat) : Int) = 0 from rfl] at h1
 unfold slices_Contains_api_Edge_api_Edge.f slices_Index_api_Edge_api_Edge.f
 simp only [h1, ob_s]
 rcases h2 with ⟨rfl, h3⟩ | ⟨i, rfl, h3⟩
 ·exact ⟨false, rfl, fun h => (by cases h), fun h => absurd h h3⟩
 ·refine ⟨true, ?_, fun _ => h3, fun _ => rfl⟩
  simp only [caseS_l, ob_s]
  rw [decide_eq_true (by omega)]
noncomputable def lessN (x : List (ByteArray × ByteArray)) (n : Nd) : Nd := (n.1, (n.2.1, (n.2.2.1.filter (keepE x n.1), (n.2.2.2.1, (n.2.2.2.2.1, n.2.2.2.2.2)))))
noncomputable def less (x : List (ByteArray × ByteArray)) (g : List Nd) : List Nd := g.map (lessN x)
section
variable {g : List Nd} {x : List (ByteArray × ByteArray)}
theorem lessIn (hx : x.length ≤ 1000000) {i : Nat} (hi : i < g.length) (hg : g.length ≤ 1000) (hn : g[i].2.2.1.length ≤ 300) (o : List Nd) (a b : ByteArray) (c d : List ByteArray) (e : Int) : ∀ (n k : Nat) (t : List ByteArray), g[i].2.2.1.length - k = n → k ≤ g[i].2.2.1.length → t.length ≤ k →
  law4_GraphNeedlessCanGo.l1 g x (i : Int) (k : Int) o a b c d e t = some (o, (a, (b, (c, (d, (e, t ++ (g[i].2.2.1.drop k).filter (keepE x g[i].1))))))) := by
 intro n
 induction n with
 | zero =>
  intro k t hk hkl ht
  rw [List.drop_eq_nil_of_le (by omega), List.filter_nil, List.append_nil]
  refine loopX_done ?_
  simp only [law4_GraphNeedlessCanGo.s1, cb_dec, rd_lt hi]
  rw [ck_pos (by omega), if_neg (by omega)]
 | succ n ih =>
  intro k t hk hkl ht
  have hlt : k < g[i].2.2.1.length := by omega
  obtain ⟨q, q1, q2⟩ := contE (l := x) (by omega) (g[i].1, g[i].2.2.1[k])
  rw [List.drop_eq_getElem_cons hlt, List.filter_cons]
  cases q with
  | true =>
   rw [if_neg (fun h => keepE_iff.1 h (q2.1 rfl))]
   refine (loopX_next ?_).trans (ih (k + 1) t (by omega) (by omega) (by omega))
   simp only [law4_GraphNeedlessCanGo.s1, cb_dec, rd_lt hi, rd_lt hlt, q1, ob_s, Bool.not_true, cb_f]
   rw [ck_pos (by omega), if_pos (by omega), ck_pos (by omega), ck_pos (by omega), ck_pos (by omega), ck_in (by omega) (by omega)]
   rfl
  | false =>
   have hno : (g[i].1, g[i].2.2.1[k]) ∉ x := fun h => by have := q2.2 h; cases this
   rw [if_pos (keepE_iff.2 hno)]
   have h2 := ih (k + 1) (t ++ [g[i].2.2.1[k]]) (by omega) (by omega) (by simp; omega)
   rw [List.append_assoc, List.singleton_append] at h2
   refine (loopX_next ?_).trans h2
   simp only [law4_GraphNeedlessCanGo.s1, cb_dec, rd_lt hi, rd_lt hlt, q1, ob_s, Bool.not_false, cb_t]
   rw [ck_pos (by omega), if_pos (by omega), ck_pos (by omega), ck_pos (by omega), ck_pos (by omega), ck_pos (by omega), ck_pos (by omega), ck_pos (by simp only [List.length_cons, List.length_nil]; omega), ck_in (by omega) (by omega)]
   rfl
theorem lessOut (hx : x.length ≤ 1000000) (hg : g.length ≤ 1000) (hn : ∀ n ∈ g, n.2.2.1.length ≤ 300) : ∀ (n i : Nat) (o : List Nd), g.length - i = n → i ≤ g.length → o.length = i → law4_GraphNeedlessCanGo.l0 g x (i : Int) o = some (o ++ (g.drop i).map (lessN x)) := by
 intro n
 induction n with
 | zero =>
  intro i o h1 h2 h3
  rw [List.drop_eq_nil_of_le (by omega), List.map_nil, List.append_nil]
  refine loopX_done ?_
  simp only [law4_GraphNeedlessCanGo.s0, cb_dec]
  rw [if_neg (by omega)]
 | succ n ih =>
  intro i o h1 h2 h3
  have hlt : i < g.length := by omega
  have hl := lessIn hx hlt hg (hn _ (List.getElem_mem hlt)) o g[i].1 g[i].2.1 g[i].2.2.2.1 g[i].2.2.2.2.1 g[i].2.2.2.2.2 _ 0 [] rfl (Nat.zero_le _) (by simp)
  rw [show ((0 : Nat) : Int) = 0 from rfl, List.drop_zero, List.nil_append] at hl
  rw [List.drop_eq_getElem_cons hlt, List.map_cons]
  have h4 := ih (i + 1) (o ++ [lessN x g[i]]) (by omega) (by omega) (by simp [h3])
  rw [List.append_assoc, List.singleton_append] at h4
  refine (loopX_next ?_).trans h4
  simp only [law4_GraphNeedlessCanGo.s0, cb_dec, rd_lt hlt, hl, ob_s]
  rw [if_pos (by omega), ck_pos (by omega), ck_pos (by simp only [List.length_cons, List.length_nil]; omega), ck_in (by omega) (by omega)]
  rfl
theorem less_len : (less x g).length = g.length := by simp [less]
theorem less_get {k : Nat} (hk : k < g.length) : (less x g)[k]'(by rw [less_len]; exact hk) = lessN x g[k] := by simp [less]
theorem less_labs : labs (less x g) = labs g := by
 unfold labs less
 rw [List.map_map]
 rfl
theorem less_labN (k : Nat) : labN (less x g) k = labN g k := by
 by_cases hk : k < g.length
 ·rw [labN_get (by rw [less_len]; exact hk), less_get hk, labN_get hk]; rfl
 ·unfold labN
  rw [List.getD, List.getD, List.getElem?_eq_none (by rw [less_len]; omega), List.getElem?_eq_none (by omega)]
theorem rising_filter {l : List ByteArray} (h : Rising l) (p : ByteArray → Bool) : Rising (l.filter p) := by
 have h1 : l.Pairwise fun a b => cmpS a b < 0 := by
  rw [List.pairwise_iff_getElem]
  exact fun i j hi hj hij => h i j hj hij
 have h2 := h1.filter p
 rw [List.pairwise_iff_getElem] at h2
 exact fun i j hj hij => h2 i j (by omega) hj hij
theorem less_sz (hs : ∀ n ∈ g, szNd n) : ∀ n ∈ less x g, szNd n := fun n hn => by
 obtain ⟨m, m1, m2⟩ := List.mem_map.1 hn
 have := hs m m1
 rw [← m2]
 exact ⟨this.1, fun s hs => this.2.1 s (List.mem_filter.1 hs).1, this.2.2.1, this.2.2.2⟩
theorem less_node {n : Nd} (hs : szNd n) (h : graph_checkNode.f n = some 0) : graph_checkNode.f (lessN x n) = some 0 := by
 obtain ⟨f, f1, f2⟩ := checkNode_some hs
 have hf : f = 0 := Option.some.inj (f1.symm.trans h)
 obtain ⟨g1, g2, _⟩ := f2 hf
 unfold graph_checkNode.f at h ⊢
 obtain ⟨b1, e1, h⟩ := ob_some h
 cases b1 with
 | false => simp only [Bool.not_false, cb_t] at h; cases h
 | true =>
  simp only [Bool.not_true, cb_f] at h
  obtain ⟨b2, e2, h⟩ := ob_some h
  cases b2 with
  | false => simp only [Bool.not_false, cb_t] at h; cases h
  | true =>
   simp only [Bool.not_true, cb_f, cb_dec] at h
   rw [if_neg (by omega)] at h
   obtain ⟨r, e3, h⟩ := ob_some h
   rcases risingW' (l := n.2.2.1) (by omega) hs.2.1 with ⟨f', k1, k2⟩ | ⟨k1, k2, k3⟩
   ·rw [k2] at e3
    cases e3
    simp only [cb_not, cb_dec, if_neg k1] at h
    exact absurd (Option.some.inj h) k1
   ·rw [k1] at e3
    cases e3
    have hl : (n.2.2.1.filter (keepE x n.1)).length ≤ n.2.2.1.length := List.length_filter_le _ _
    have hr := rise_ok (l := n.2.2.1.filter (keepE x n.1)) (by omega) (fun s hs => k2 s (List.mem_filter.1 hs).1) (rising_filter k3 _)
    have e1' : script_IsWhole.f (lessN x n).1 = some true := e1
    have e2' : script_IsName.f (lessN x n).2.1 = some true := e2
    have hr' : graph_rising_f136.f (lessN x n).2.2.1 () = some 0 := hr
    have hl' : ¬ (300 : Int) < (((lessN x n).2.2.1.length : Nat) : Int) := by
     have : (lessN x n).2.2.1.length ≤ n.2.2.1.length := hl
     omega
    simp only [e1', e2', hr', ob_s, Bool.not_true, cb_f, cb_dec]
    rw [if_neg hl']
    simp only [cb_not, cb_dec, if_true] at h ⊢
    exact h
end
end Go.Proofs.YtafalbofjmfbnaaDoor
