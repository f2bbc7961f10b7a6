/-
  The engine at smaller bounds, and the weights of small data. No condition.
-/
import Derived.Test.YtplgphblmeceoaaGreatDoorZPlain
import Derived.Test.YtplgphblmeceoaaGreatDoorZUpA
import Derived.Test.YtplgphblmeceoaaGreatDoorRows
import Derived.LaidSub
import Derived.Lib.LaidTab
import Derived.Test.YtplgphblmeceoaaGreatDoorCards
import Derived.Test.YtplgphblmeceoaaGreatDoorTie
import Derived.ProofKit
import Derived.LaidMore
import Derived.Lay
import Derived.OpenShut
import Derived.SevenTiedAt
import Derived.Stop.Joined
import Derived.JoinedCond
import Derived.Deep.DeepHandedRow
set_option linter.unusedVariables false
set_option linter.unusedSimpArgs false
namespace Go.Proofs.YtplgphblmeceoaaGreatDoor
open Go Go.RowKit Go.Proofs.YtplgphblmeceoaaGreatDoor.Eng
variable {H : Type} {P : Program}
mutual
theorem bulk_pos : ∀ d : DataW H, 1 ≤ Rows.uptoBulk d
 | .lit l => by cases l <;> simp [Rows.uptoBulk]
 | .nil => by simp [Rows.uptoBulk]
 | .ptr d => by simp [Rows.uptoBulk]
 | .slice a b => by simp [Rows.uptoBulk]
 | .agg a => by simp [Rows.uptoBulk]
 | .iface t d => by simp [Rows.uptoBulk]
 | .map e => by simp [Rows.uptoBulk]
 | .held h => by simp [Rows.uptoBulk]
end
theorem bulk_len : ∀ l : List (DataW H), l.length ≤ Rows.uptoBulkAll l
 | [] => Nat.le_refl _
 | d :: r => by
  have h1 := bulk_pos d
  have h2 := bulk_len r
  simp only [List.length_cons, Rows.uptoBulkAll]; omega
theorem bulkE_pos : ∀ x : Lit × DataW H, 1 ≤ Rows.uptoBulkEntry x
 | (l, d) => by have := bulk_pos d; cases l <;> simp only [Rows.uptoBulkEntry] <;> omega
theorem bulkE_len : ∀ l : List (Lit × DataW H), l.length ≤ Rows.uptoBulkEntries l
 | [] => Nat.le_refl _
 | d :: r => by
  have h1 := bulkE_pos d
  have h2 := bulkE_len r
  simp only [List.length_cons, Rows.uptoBulkEntries]; omega
variable {N M n : Nat}
def Z8t (P : Program) (n t : Nat) : Bool := match P.underlying t with
 | some (.pointer e) => decide (e < n)
 | some (.slice e) => decide (e < n)
 | some (.struct fs) => (fs.toList.map (·.type)).all fun e => decide (e < n)
 | some (.array _ e) => decide (e < n)
 | some (.map k e) => decide (k < n) && decide (e < n)
 | _ => true
mutual
theorem w_d (hM : ∀ e, e < n → 2 * P.bytesOf e ≤ M) (hC : ∀ t, t < n → Z8t P n t = true) (h1 : 1 ≤ M) : ∀ (d : DataW H) (t : TypeId), t < n → Rows.uptoBulk d ≤ N → ∀ x ∈ d.weights P t, x ≤ N * M
 | .lit l, t, ht, h, x, hx => by
  cases l with
  | string b =>
   simp only [DataW.weights, List.mem_singleton] at hx
   simp only [Rows.uptoBulk] at h
   have := Nat.le_mul_of_pos_right N h1
   omega
  | _ => simp [DataW.weights] at hx
 | .nil, t, ht, h, x, hx => by simp [DataW.weights] at hx
 | .ptr d, t, ht, h, x, hx => by
  simp only [Rows.uptoBulk] at h
  simp only [DataW.weights] at hx
  have hc := hC t ht
  unfold Z8t at hc
  split at hx
  ·rename_i e he
   rw [he] at hc
   exact w_d hM hC h1 d e (of_decide_eq_true hc) (by omega) x hx
  ·cases hx
 | .slice a b, t, ht, h, x, hx => by
  simp only [Rows.uptoBulk] at h
  simp only [DataW.weights] at hx
  have hc := hC t ht
  unfold Z8t at hc
  split at hx
  ·rename_i e he
   rw [he] at hc
   have hc' : e < n := of_decide_eq_true hc
   rcases List.mem_cons.1 hx with hx | hx
   ·have h2 := bulk_len a
    have h3 := bulk_len b
    rw [hx]
    exact Nat.mul_le_mul (by omega) (by have := hM e hc'; omega)
   ·rcases List.mem_append.1 hx with hx | hx
    ·exact Zid hM hC h1 a e hc' (by omega) x hx
    ·exact Zid hM hC h1 b e hc' (by omega) x hx
  ·cases hx
 | .agg a, t, ht, h, x, hx => by
  simp only [Rows.uptoBulk] at h
  simp only [DataW.weights] at hx
  have hc := hC t ht
  unfold Z8t at hc
  split at hx
  ·rename_i fs he
   rw [he] at hc
   exact Zfk hM hC h1 a _ (fun e he => of_decide_eq_true (List.all_eq_true.1 hc e he)) (by omega) x hx
  ·rename_i k e he
   rw [he] at hc
   exact Zid hM hC h1 a e (of_decide_eq_true hc) (by omega) x hx
  ·cases hx
 | .iface t' d, t, ht, h, x, hx => by simp [DataW.weights] at hx
 | .map e, t, ht, h, x, hx => by
  simp only [Rows.uptoBulk] at h
  simp only [DataW.weights] at hx
  have hc := hC t ht
  unfold Z8t at hc
  split at hx
  ·rename_i k v he
   rw [he] at hc
   simp only [Bool.and_eq_true, decide_eq_true_eq] at hc
   rcases List.mem_cons.1 hx with hx | hx
   ·have h2 := bulkE_len e
    have h3 := hM k hc.1
    have h4 := hM v hc.2
    rw [hx]
    exact Nat.mul_le_mul (by omega) (by omega)
   ·exact Zat hM hC h1 e v hc.2 (by omega) x hx
  ·cases hx
 | .held _, t, ht, h, x, hx => by simp [DataW.weights] at hx
theorem Zid (hM : ∀ e, e < n → 2 * P.bytesOf e ≤ M) (hC : ∀ t, t < n → Z8t P n t = true) (h1 : 1 ≤ M) : ∀ (l : List (DataW H)) (t : TypeId), t < n → Rows.uptoBulkAll l ≤ N → ∀ x ∈ DataW.weightsAll P t l, x ≤ N * M
 | [], t, ht, h, x, hx => by simp [DataW.weightsAll] at hx
 | d :: r, t, ht, h, x, hx => by
  simp only [Rows.uptoBulkAll] at h
  simp only [DataW.weightsAll] at hx
  rcases List.mem_append.1 hx with hx | hx
  ·exact w_d hM hC h1 d t ht (by omega) x hx
  ·exact Zid hM hC h1 r t ht (by omega) x hx
theorem Zat (hM : ∀ e, e < n → 2 * P.bytesOf e ≤ M) (hC : ∀ t, t < n → Z8t P n t = true) (h1 : 1 ≤ M) : ∀ (l : List (Lit × DataW H)) (t : TypeId), t < n → Rows.uptoBulkEntries l ≤ N → ∀ x ∈ DataW.weightsEntries P t l, x ≤ N * M
 | [], t, ht, h, x, hx => by simp [DataW.weightsEntries] at hx
 | (l, d) :: r, t, ht, h, x, hx => by
  simp only [Rows.uptoBulkEntries] at h
  simp only [DataW.weightsEntries] at hx
  rcases List.mem_append.1 hx with hx | hx
  ·have hd : Rows.uptoBulk d ≤ N := by cases l <;> simp only [Rows.uptoBulkEntry] at h <;> omega
   cases l with
   | string b =>
    simp only [DataW.weightsEntry] at hx
    rcases List.mem_cons.1 hx with hx | hx
    ·simp only [Rows.uptoBulkEntry] at h
     have := Nat.le_mul_of_pos_right N h1
     omega
    ·exact w_d hM hC h1 d t ht hd x hx
   | _ => exact w_d hM hC h1 d t ht hd x (by simpa only [DataW.weightsEntry] using hx)
  ·exact Zat hM hC h1 r t ht (by omega) x hx
theorem Zfk (hM : ∀ e, e < n → 2 * P.bytesOf e ≤ M) (hC : ∀ t, t < n → Z8t P n t = true) (h1 : 1 ≤ M) : ∀ (l : List (DataW H)) (ts : List TypeId), (∀ t ∈ ts, t < n) → Rows.uptoBulkAll l ≤ N → ∀ x ∈ DataW.weightsEach P ts l, x ≤ N * M
 | [], ts, ht, h, x, hx => by cases ts <;> simp [DataW.weightsEach] at hx
 | d :: r, [], ht, h, x, hx => by simp [DataW.weightsEach] at hx
 | d :: r, t :: ts, ht, h, x, hx => by
  simp only [Rows.uptoBulkAll] at h
  simp only [DataW.weightsEach] at hx
  rcases List.mem_append.1 hx with hx | hx
  ·exact w_d hM hC h1 d t (ht t (List.mem_cons_self ..)) (by omega) x hx
  ·exact Zfk hM hC h1 r ts (fun e he => ht e (List.mem_cons_of_mem _ he)) (by omega) x hx
end
end Go.Proofs.YtplgphblmeceoaaGreatDoor
set_option linter.unusedVariables false
set_option linter.unusedSimpArgs false
set_option maxRecDepth 100000
set_option maxHeartbeats 4000000
namespace Go.Proofs.YtplgphblmeceoaaGreatDoor
open Go Go.RowKit Go.ChangeShapes Go.WideShapes Go.ChangeAt Go.Proofs.YtplgphblmeceoaaGreatDoor.Eng
theorem own : ownKnob Tryz.prog.godebug = none := by kernel_rfl
theorem laidOut : laidOutB Tryz.prog = true := by kernel_rfl
theorem Zjv (e : TypeId) (he : e < Tryz.prog.types.size) : 2 * Tryz.prog.bytesOf e ≤ 4096 := by
 have hall : ((List.range Tryz.prog.types.size).all fun e => decide (2 * Tryz.prog.bytesOf e ≤ 4096)) = true := by kernel_rfl
 exact of_decide_eq_true (List.all_eq_true.1 hall e (List.mem_range.2 he))
theorem Zjq (t : TypeId) (ht : t < Tryz.prog.types.size) : Z8t Tryz.prog Tryz.prog.types.size t = true := by
 have hall : ((List.range Tryz.prog.types.size).all fun t => Z8t Tryz.prog Tryz.prog.types.size t) = true := by kernel_rfl
 exact List.all_eq_true.1 hall t (List.mem_range.2 ht)
theorem lays_of {W : World} (h : Lib.TabIs Tryz.prog W "internal/strconv.uint64pow10" .u64 Lib.pow10Tab) : Lays (Old W) W := by
 have hg : Tryz.prog.globalNamed "internal/strconv.uint64pow10" = some 3 := by kernel_rfl
 unfold Lib.TabIs World.var? at h
 rw [hg] at h
 simp only [Option.bind_some] at h
 intro p hp
 simp only [LAID, List.mem_singleton] at hp
 subst hp
 split at h
 ·rename_i cs e q hh
  injection h with h
  subst h
  exact ⟨(Array.getElem?_eq_some_iff.1 hh).1, e, q, hh⟩
 ·cases h
theorem Zgs {l : List (String × DataW Unit)} (hl : l.filter (fun x => x.1 == "internal/strconv.uint64pow10") = [("internal/strconv.uint64pow10", Rows.laid_internal_strconv_uint64pow10)]) {W : World} (h : laidMet Tryz.prog l W) : Lays (Old W) W := by
 have h2 := laidMet.filter (fun x => x.1 == "internal/strconv.uint64pow10") h
 rw [hl] at h2
 have e : (Rows.laid_internal_strconv_uint64pow10 : DataW Unit) = Lib.tabData .u64 Lib.pow10Tab := by kernel_rfl
 rw [e] at h2
 exact lays_of (Lib.tabIs_of_head (g := 3) (t := 171) (e := 113) (n := 20) (by kernel_rfl) (by kernel_rfl) (by kernel_rfl) (by kernel_rfl) (by kernel_rfl) (by kernel_rfl) h2)
end Go.Proofs.YtplgphblmeceoaaGreatDoor
