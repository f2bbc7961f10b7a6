/-
  Plain laws over the printed functions: ways, and rings. No condition.
-/
import Derived.Test.YtafalbofjmfbnaaDoorPlain2
set_option linter.unusedVariables false
set_option linter.unusedSimpArgs false
namespace Go.Proofs.YtafalbofjmfbnaaDoor
open Go Go.Proofs.YtafalbofjmfbnaaDoor.Eng
section
variable {g : List Nd}
theorem needs_eq (h : Right g) {i : Nat} (hi : i < g.length) (s : ByteArray) : law4_needs.f g g[i].1 s = slices_Contains_string_string.f g[i].2.2.1 s := by
 have hgl := h.len
 obtain ⟨b, hb, _⟩ := contB (l := g[i].2.2.1) (by have := (h.nd _ (List.getElem_mem hi)).1; omega) s
 have go : ∀ (n k : Nat), i - k = n → k ≤ i → law4_needs.l0 g g[i].1 s (k : Int) = some (.inl b) := by
  intro n
  induction n with
  | zero =>
   intro k hn hk
   have e : k = i := by omega
   subst e
   refine loopX_done ?_
   simp only [law4_needs.s0, cb_dec, rd_lt hi]
   rw [if_pos (by omega), ck_pos (by omega), if_pos trivial, ck_pos (by omega), hb, ob_s]
  | succ n ih =>
   intro k hn hk
   have hlt : k < g.length := by omega
   refine (loopX_next ?_).trans (ih (k + 1) (by omega) (by omega))
   simp only [law4_needs.s0, cb_dec, rd_lt hlt]
   rw [if_pos (by omega), ck_pos (by omega), if_neg (fun e => by have := lab_inj h.lab hlt hi e; omega), ck_in (by omega) (by omega)]
   rfl
 unfold law4_needs.f
 have h0 := go i 0 (by omega) (Nat.zero_le _)
 rw [show ((0 : Nat) : Int) = 0 from rfl] at h0
 rw [h0, hb]; rfl
theorem needs_ed (h : Right g) {i k : Nat} (he : Ed g i k) : law4_needs.f g (labN g i) (labN g k) = some true := by
 have hl := h.ed_lt he
 rw [labN_get hl.1, labN_get hl.2, needs_eq h hl.1]
 obtain ⟨b, hb, hb2⟩ := contB (l := g[i].2.2.1) (by have := (h.nd _ (List.getElem_mem hl.1)).1; omega) g[k].1
 rw [hb, hb2.2 ((D_label h hl.1 hl.2).1 he.2)]
theorem Ord.noloop {L : List Nat} (h : Right g) (ho : Ord g L) (hl : L.length = g.length) : ∀ x m, x < g.length → ¬ Go.Proofs.YtafalbofjmfbnaaDoor.Eng.Way (Ed g) x x (m + 1) := by
 have key : ∀ {a b m}, Go.Proofs.YtafalbofjmfbnaaDoor.Eng.Way (Ed g) a b m → ∀ p q : Nat, ∀ hp : p < L.length, ∀ hq : q < L.length, L[p] = a → L[q] = b → q + m ≤ p := by
  intro a b m hw
  induction hw with
  | nil =>
   intro p q hp hq h1 h2
   have := nodup_get ho.nodup hp hq (by rw [h1, h2])
   omega
  | @snoc b c m hw e ih =>
   intro p q hp hq h1 h2
   obtain ⟨r, hr, hre⟩ := List.getElem_of_mem (ho.all hl (h.ed_lt e).1)
   have h3 := ih p r hp hr h1 hre
   have h4 := ho.dep r hr c (by rw [hre]; exact e)
   obtain ⟨t, ht, hte⟩ := List.getElem_of_mem h4
   have htr : t < r := by have := ht; simp at this; omega
   rw [List.getElem_take] at hte
   have := nodup_get ho.nodup (by omega : t < L.length) hq (by rw [hte, h2])
   omega
 intro x m hx hw
 obtain ⟨p, hp, hpe⟩ := List.getElem_of_mem (ho.all hl hx)
 have := key hw p p hp hp hpe hpe
 omega
end
end Go.Proofs.YtafalbofjmfbnaaDoor
