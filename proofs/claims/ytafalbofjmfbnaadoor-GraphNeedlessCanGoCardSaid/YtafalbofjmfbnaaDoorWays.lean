/-
  Plain laws over the printed functions: ways, and rings. No condition.
-/
import Derived.Test.YtafalbofjmfbnaaDoorPlain2
import Derived.Test.YtafalbofjmfbnaaDoorSteps
set_option linter.unusedVariables false
set_option linter.unusedSimpArgs false
namespace Go.Proofs.YtafalbofjmfbnaaDoor
open Go Go.Proofs.YtafalbofjmfbnaaDoor.Eng
section
variable {g : List Nd}
theorem Ord.noloop {L : List Nat} (h : Right g) (ho : Ord g L) (hl : L.length = g.length) : ∀ x m, x < g.length → ¬ Go.Proofs.YtafalbofjmfbnaaDoor.Eng.Way (Ed g) x x (m + 1) := by
 have key : ∀ {a b m}, Go.Proofs.YtafalbofjmfbnaaDoor.Eng.Way (Ed g) a b m → ∀ p q : Nat, ∀ hp : p < L.length, ∀ hq : q < L.length, L[p] = a → L[q] = b → q + m ≤ p := by
  intro a b m hw
  induction hw with
  | nil =>
   intro p q hp hq h1 h2
   have := nodup_get ho.nodup hp hq (by rw [h1, h2])
   omega
  | @snoc b c m hw e ih =>
   intro p q hp hq h1 h2
   obtain ⟨r, hr, hre⟩ := List.getElem_of_mem (ho.all hl (h.ed_lt e).1)
   have h3 := ih p r hp hr h1 hre
   have h4 := ho.dep r hr c (by rw [hre]; exact e)
   obtain ⟨t, ht, hte⟩ := List.getElem_of_mem h4
   have htr : t < r := by have := ht; simp at this; omega
   rw [List.getElem_take] at hte
   have := nodup_get ho.nodup (by omega : t < L.length) hq (by rw [hte, h2])
   omega
 intro x m hx hw
 obtain ⟨p, hp, hpe⟩ := List.getElem_of_mem (ho.all hl hx)
 have := key hw p p hp hp hpe hpe
 omega
end
end Go.Proofs.YtafalbofjmfbnaaDoor
set_option linter.unusedVariables false
set_option linter.unusedSimpArgs false
namespace Go.Proofs.YtafalbofjmfbnaaDoor
open Go Go.Proofs.YtafalbofjmfbnaaDoor.Eng
section
variable {g : List Nd}
theorem at_lab (h : Right g) {x : Nat} (hx : x < g.length) : graph_at.f g (labN g x) = some (x : Int) := by
 rcases h.at (labN g x) with ⟨h1, h2⟩
 rcases h2 with ⟨_, h3⟩ | ⟨k, h3, hk, h4⟩
 ·exact absurd (labN_get hx).symm (h3 x hx)
 ·rw [h1, h3, labN_inj h hk hx (by rw [labN_get hk, h4])]
theorem numbers_one (h : Right g) {x : Nat} (hx : x < g.length) : graph_net_numbers.f (net g) [labN g x] = some (ints [x], 0) := by
 have l : graph_net_numbers.l0 (net g) [labN g x] 1 0 [] = some (.inr [(x : Int)]) := by
  refine (loopX_next (x' := (1, [(x : Int)])) ?_).trans (loopX_done (by rfl))
  have e : rd ByteArray.empty [labN g x] 0 = labN g x := rfl
  simp only [graph_net_numbers.s0, cb_dec, e, Option.isSome_some, Option.getD_some, ck_tr, at_lab h hx, ob_s]
  rw [if_pos (by decide), ck_pos (by simp only [List.length_cons, List.length_nil]; decide), if_neg (by omega), ck_pos (by simp only [List.length_cons, List.length_nil]; decide), ck_in (by decide) (by decide)]
  rfl
 unfold graph_net_numbers.f
 show cb _ _ (ob (graph_net_numbers.l0 (net g) [labN g x] 1 0 []) _) = _
 rw [l]
 rfl
theorem reached_ok (h : Right g) {O : List Int} (ht : graph_tree.f g = some (net g, (O, 0))) {x : Nat} (hx : x < g.length) {m : Int} (m1 : -1 ≤ m) (m2 : m ≤ 1000) :
  ∃ d : List Int, Far g.length (Dir g false) (· ∈ [x]) (fun k => d.getD k 0) ∧ graph_reached.f g [labN g x] m false = some ((Wi g.length d m).map (labN g), 0) := by
 have hgl := h.len
 obtain ⟨d, d1, d2, d3, d4⟩ := within_eq h false (S := [x]) (fun s hs => by rw [List.mem_singleton.1 hs]; exact hx) (by simp) m
 have hwl := Wi_len g.length d m
 have hlab := labels_eq g (depsA g) (usersA g) (L := Wi g.length d m) (by omega) hgl (fun x hx => (mem_Wi.1 hx).1)
 have d2' : graph_within.f (depsA g) (ints [x]) m = _ := d2
 refine ⟨d, d1, ?_⟩
 unfold graph_reached.f
 rw [ht]
 simp only [ob_s, cb_not, cb_dec, if_true, numbers_one h hx, Option.isSome_some, Option.getD_some, ck_tr, cb_f, d2', hlab]
 rw [if_neg (by omega), if_neg (by omega)]
end
end Go.Proofs.YtafalbofjmfbnaaDoor
